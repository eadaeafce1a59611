/- consistorylaw18.DealNames: a closed statement: walked (printed by mkt.py). -/
import Derived.Test.YthicondcjeipfaaGreatDoorZ5
namespace Go.Proofs.YthicondcjeipfaaGreatDoor
open Go Go.RowKit Go.Shelf

theorem mk_at18 (b : Nat) (d : Int) (w : World) (hc : w.cell? ⟨b, 2, none⟩ = some (.int .i64 d)) :
    Calls Tryz.prog 8 #[.pointer (some ⟨b, 0, none⟩)] w fun e w' => e = .returned (.int .i64 d) ∧ w' = w := by
  go_enter Tryz.func8, Tryz.ntmps8
  go_wp2
  go_ret
  exact ⟨rfl, rfl⟩
theorem sl12 (w : World) : Sl encU TT (w.alloc (.cells #[.int .u64 2, .int .u64 3, .int .u64 4, .int .u64 6, .int .u64 7, .int .u64 8, .int .u64 0, .int .u64 0, .int .u64 9, .int .u64 0, .int .u64 0, .int .u64 10] 22)) (.slice (some ⟨w.heap.size, 0, none⟩) 12 12) [2, 3, 4, 6, 7, 8, 0, 0, 9, 0, 0, 10] := Sl.build [[.int .u64 2], [.int .u64 3], [.int .u64 4], [.int .u64 6], [.int .u64 7], [.int .u64 8], [.int .u64 0], [.int .u64 0], [.int .u64 9], [.int .u64 0], [.int .u64 0], [.int .u64 10]] rfl ⟨⟨rfl, by decide⟩, ⟨rfl, by decide⟩, ⟨rfl, by decide⟩, ⟨rfl, by decide⟩, ⟨rfl, by decide⟩, ⟨rfl, by decide⟩, ⟨rfl, by decide⟩, ⟨rfl, by decide⟩, ⟨rfl, by decide⟩, ⟨rfl, by decide⟩, ⟨rfl, by decide⟩, ⟨rfl, by decide⟩, trivial⟩ rfl (by decide)
theorem sl15 (w : World) : Sl encP (fun x => x = w.heap.size) (w.alloc (.cells #[.int .u64 1, .int .u64 5, .int .u64 0, .int .u64 0] 38)) (.slice (some ⟨w.heap.size, 0, none⟩) 2 2) [(1, 5), (0, 0)] := by
  exact Sl.block (E := encP) (X := fun x => x = w.heap.size) (xs := [(1, 5), (0, 0)]) (Bk.new w 38 #[.int .u64 1, .int .u64 5, .int .u64 0, .int .u64 0]) rfl [[.int .u64 1, .int .u64 5], [.int .u64 0, .int .u64 0]] rfl (fun i hi hi' => by
    have h : i = 0 ∨ i = 1 := by simp at hi; omega
    rcases h with rfl | rfl
    · exact ⟨rfl, (show U64 1 ∧ U64 5 from ⟨by decide, by decide⟩)⟩
    · exact ⟨rfl, (show U64 0 ∧ U64 0 from ⟨by decide, by decide⟩)⟩) rfl (by decide) (by decide)
abbrev cP (a b c d : Int) : Obj := .cells #[.int .u64 a, .int .u64 b, .int .u64 c, .int .u64 d] 38
abbrev cR (n : Nat) : Obj := .cells #[.slice (some ⟨n, 0, none⟩) 2 2, .slice (some ⟨n + 1, 0, none⟩) 2 2] 39
theorem slP2 (w : World) (a b c d : Int) (ha : U64 a ∧ U64 b) (hc : U64 c ∧ U64 d) : Sl encP TT (w.alloc (cP a b c d)) (.slice (some ⟨w.heap.size, 0, none⟩) 2 2) [(a, b), (c, d)] := Sl.build [[.int .u64 a, .int .u64 b], [.int .u64 c, .int .u64 d]] rfl ⟨⟨rfl, ha⟩, ⟨rfl, hc⟩, trivial⟩ rfl (by decide)
def three (w : World) (a b c d e f g h : Int) : World := ((w.alloc (cP a b c d)).alloc (cP e f g h)).alloc (cR w.heap.size)
theorem three_size (w : World) (a b c d e f g h : Int) : (three w a b c d e f g h).heap.size = w.heap.size + 1 + 1 + 1 := by
  unfold three
  rw [World.size_alloc, World.size_alloc, World.size_alloc]
theorem three_grown (w : World) (a b c d e f g h : Int) : w.grownBy (three w a b c d e f g h) none := (World.grownBy_alloc w (cP a b c d) none).trans ((World.grownBy_alloc _ (cP e f g h) none).trans (World.grownBy_alloc _ _ none))
theorem three_sl (w : World) (a b c d e f g h : Int) (h1 : U64 a ∧ U64 b) (h2 : U64 c ∧ U64 d) (h3 : U64 e ∧ U64 f) (h4 : U64 g ∧ U64 h) :
    Sl (encS encP) TT (three w a b c d e f g h) (.slice (some ⟨w.heap.size + 1 + 1, 0, none⟩) 2 2) [[(a, b), (c, d)], [(e, f), (g, h)]] := by
  have k1 := (slP2 w a b c d h1 h2).kept (World.grownBy_alloc _ (cP e f g h) none)
  have k2 := slP2 (w.alloc (cP a b c d)) e f g h h3 h4
  rw [World.size_alloc] at k2
  have k3 := Sl.build (E := encS encP) (w := (w.alloc (cP a b c d)).alloc (cP e f g h)) (t := 39) (cs := #[.slice (some ⟨w.heap.size, 0, none⟩) 2 2, .slice (some ⟨w.heap.size + 1, 0, none⟩) 2 2]) (xs := [[(a, b), (c, d)], [(e, f), (g, h)]]) (n := 2) [[.slice (some ⟨w.heap.size, 0, none⟩) 2 2], [.slice (some ⟨w.heap.size + 1, 0, none⟩) 2 2]] rfl ⟨⟨_, rfl, k1⟩, ⟨_, rfl, k2⟩, trivial⟩ rfl (by decide)
  rw [World.size_alloc, World.size_alloc] at k3
  exact k3
abbrev nil3 : Array Value := #[.slice none 0 0, .slice none 0 0, .slice none 0 0]
abbrev noMake : Value := .tuple #[.agg nil3, .int .i64 1]
theorem noOk (D : World) : BoxOk D none 33 nil3 (fun _ => True) (fun x cs _ => x = noMake ∧ cs = nil3) where
  row := fun r e => by cases e
  pre := fun _ _ => trivial
  told := fun h _ => h
  store := fun h _ _ _ => h
abbrev noModel : Value := .tuple #[.slice none 0 0, .slice none 0 0, .int .i64 1]
def pvE (n : Int) : Pv := ⟨fun v _ => ∃ a, v = .tuple #[a, .int .i64 n], fun h _ => h⟩
theorem slMade (w : World) (n : Nat) (hn : n ≤ 1000) : Sl encU TT (w.alloc (.cells (madeCells #[.int .u64 0] n) 22)) (.slice (some ⟨w.heap.size, 0, none⟩) n n) (List.replicate n 0) := by
  have h := Sl.ofBk (w := w.alloc (.cells (madeCells #[.int .u64 0] n) 22)) (g := w.heap.size) (t := 22) (l := List.replicate n 0) ((Bk.new w 22 (madeCells #[.int .u64 0] n)).of_eq (Array.toList_inj.1 (by rw [toList_madeCells_one]; simp [nums]))) (fun x hx => by rw [List.eq_of_mem_replicate hx]; exact ⟨by decide, by decide⟩) (by rw [List.length_replicate]; omega)
  rw [List.length_replicate] at h
  exact h
abbrev cU (a b : Int) : Obj := .cells #[.int .u64 a, .int .u64 b] 22
theorem slU2 (w : World) (a b : Int) (ha : U64 a) (hb : U64 b) : Sl encU TT (w.alloc (cU a b)) (.slice (some ⟨w.heap.size, 0, none⟩) 2 2) [a, b] := Sl.build [[.int .u64 a], [.int .u64 b]] rfl ⟨⟨rfl, ha⟩, ⟨rfl, hb⟩, trivial⟩ rfl (by decide)
theorem slUU (w : World) (a b c d : Int) (ha : U64 a) (hb : U64 b) (hc : U64 c) (hd : U64 d) : Sl (encS encU) TT (((w.alloc (cU a b)).alloc (cU c d)).alloc (.cells #[.slice (some ⟨w.heap.size, 0, none⟩) 2 2, .slice (some ⟨w.heap.size + 1, 0, none⟩) 2 2] 29)) (.slice (some ⟨w.heap.size + 1 + 1, 0, none⟩) 2 2) [[a, b], [c, d]] := by
  have k1 := (slU2 w a b ha hb).kept (World.grownBy_alloc _ (cU c d) none)
  have k2 := slU2 (w.alloc (cU a b)) c d hc hd
  rw [World.size_alloc] at k2
  have k3 := Sl.build (E := encS encU) (w := (w.alloc (cU a b)).alloc (cU c d)) (t := 29) (cs := #[.slice (some ⟨w.heap.size, 0, none⟩) 2 2, .slice (some ⟨w.heap.size + 1, 0, none⟩) 2 2]) (xs := [[a, b], [c, d]]) (n := 2) [[.slice (some ⟨w.heap.size, 0, none⟩) 2 2], [.slice (some ⟨w.heap.size + 1, 0, none⟩) 2 2]] rfl ⟨⟨_, rfl, k1⟩, ⟨_, rfl, k2⟩, trivial⟩ rfl (by decide)
  rw [World.size_alloc, World.size_alloc] at k3
  exact k3
set_option maxRecDepth 100000 in
set_option maxHeartbeats 8000000 in
theorem dealNames_any (w : World) (hT : TabsAt w) : Calls Tryz.prog 3 #[] w fun e w' => e = .returned (.bool true) ∧ w.grownBy w' none := by
  have HTB := Lib.hid hT
  have HMAY : Hid (mayP ps = true) := Lib.hid (by decide +kernel)
  clear hT
  go_enter Tryz.func3, Tryz.ntmps3
  go_wp2_with fail
  refine (small18_any w).mono ?_
  rintro e w1 ⟨rfl, hg1⟩
  obtain ⟨w2, hw2⟩ : ∃ y, y = w1.alloc (Obj.cells ps.cells 24) := ⟨_, rfl⟩
  obtain ⟨gp, hgp⟩ : ∃ y, y = w1.heap.size := ⟨_, rfl⟩
  have HBp : Hid (Bk w2 gp 24 ps.cells) := Lib.hid (by rw [hw2, hgp]; exact Bk.new _ _ _)
  have HG2 : Hid (w.grownBy w2 none) := Lib.hid (by rw [hw2]; exact hg1.trans (World.grownBy_alloc _ _ none))
  clear hg1
  go_upto_region 2 with (fail)
  first | rw [← hw2, ← hgp] | (have hw2' : w1.alloc (Obj.cells #[.int .u64 23, .int .u64 11, .int .u64 4, .int .u64 9, .int .i64 4, .int .i64 4, .int .i64 1, .int .i64 1, .int .i64 1, .int .i64 1, .int .i64 1, .int .i64 1] 24) = w2 := hw2.symm; rw [hw2', ← hgp]; clear hw2')
  clear hw2 hgp
  go_wp2_with fail
  refine (works18_any w2 (HTB.out.kept HG2.out)).mono ?_
  rintro e w3 ⟨rfl, hg3⟩
  have HB3 := Lib.hid (HBp.out.grown hg3 (by simp))
  have HG3 : Hid (w.grownBy w3 none) := Lib.hid (HG2.out.trans hg3)
  have HGP : Hid (gp < w3.heap.size) := Lib.hid HB3.out.lt
  clear hg3 HBp HG2
  go_upto_region 4 with (fail)
  go_wp2_with fail
  refine (of_made _ [2, 3, 4, 6, 7, 8, 0, 0, 9, 0, 0, 10] 0 _ (sl_is (sl12 w3)) (by decide)).mono ?_
  rintro e w5 ⟨b, ga, rfl, k1, k2, k3, k4, k5⟩
  have HTI : Hid (TapeIs w5 b ga T12 ∧ ga < w5.heap.size) := Lib.hid ⟨k1, k4⟩
  have HG5 : Hid (w.grownBy w5 none) := Lib.hid (HG3.out.trans ((World.grownBy_alloc _ _ none).trans k5))
  have HB5 := Lib.hid (HB3.out.grown ((World.grownBy_alloc w3 (.cells #[.int .u64 2, .int .u64 3, .int .u64 4, .int .u64 6, .int .u64 7, .int .u64 8, .int .u64 0, .int .u64 0, .int .u64 9, .int .u64 0, .int .u64 0, .int .u64 10] 22) none).trans k5) (by simp))
  have HBW : Hid (w.heap.size ≤ b ∧ gp < b) := Lib.hid (by have h1 := HG3.out.size; have h2 := HGP.out; have h3 := k2; rw [World.size_alloc] at h3; omega)
  clear k1 k2 k3 k4 k5 HB3 HG3 HGP
  have hp5 := HB5.out.prule
  go_wp2_with fail
  obtain ⟨w6, hw6⟩ : ∃ y, y = w5.alloc (Obj.cells #[.int .u64 1, .int .u64 5, .int .u64 0, .int .u64 0] 38) := ⟨_, rfl⟩
  have HGS : Hid (w5.grownBy w6 none) := Lib.hid (by rw [hw6]; exact World.grownBy_alloc _ _ none)
  have HMK := Lib.hid (dmake_any ps (.slice (some ⟨w5.heap.size, 0, none⟩) 2 2) [(1, 5), (0, 0)] 2 _ w6 (tp_ahead b ga 11 T12 ⟨by decide, by decide, by decide, by decide⟩ (by decide) ⟨by decide, by decide⟩) ps_ok HMAY.out (HTB.out.kept (HG5.out.trans HGS.out)) (by rw [hw6]; exact sl15 w5) (fun x hx => by have := HTI.out.1.lt; omega) (by decide +kernel) ⟨by decide, by decide⟩ 0 2 rfl ⟨HTI.out.1.kept HGS.out, Nat.lt_of_lt_of_le HTI.out.2 HGS.out.size⟩ (by decide))
  rw [← hw6]
  have HW6 := Lib.hid hw6
  clear hw6 hp5
  refine HMK.out.mono ?_
  rintro e w7 ⟨vm, vr, vc, rfl, s1, s2, s3, ti, hg7⟩
  obtain ⟨Am, nm, cm, rfl⟩ := s1.shape
  have s1' : Sl (encS (encS encU)) (fun b => w6.heap.size ≤ b) w7 (.slice Am nm cm) MN := s1
  have s2' : Sl (encS (encS encP)) (fun b => w6.heap.size ≤ b) w7 vr RWN := s2
  have s3' : Sl (encS (encS encP)) (fun b => w6.heap.size ≤ b) w7 vc CLN := s3
  clear s1 s2 s3 HMK
  obtain ⟨Ar, cr, e, _, _⟩ := s2'.form
  rw [rwn_len] at e
  subst e
  obtain ⟨Ac, cc, e, _, _⟩ := s3'.form
  rw [cln_len] at e
  subst e
  have HS1 := Lib.hid (s1'.more (Y := TT) fun _ _ _ => trivial)
  have HS2 := Lib.hid (s2'.more (Y := TT) fun _ _ _ => trivial)
  have HS3 := Lib.hid (s3'.more (Y := TT) fun _ _ _ => trivial)
  clear s1' s2' s3'
  go_upto_region 6 with (fail)
  obtain ⟨w8, hw8⟩ : ∃ y, y = w7.alloc (Obj.cells #[.slice Am nm cm, .slice Ar 2 cr, .slice Ac 2 cc] 33) := ⟨_, rfl⟩
  obtain ⟨gd, hgd⟩ : ∃ y, y = w7.heap.size := ⟨_, rfl⟩
  have HG78 : Hid (w7.grownBy w8 none) := Lib.hid (by rw [hw8]; exact World.grownBy_alloc _ _ none)
  have HBD : Hid (Bk w8 gd 33 #[.slice Am nm cm, .slice Ar 2 cr, .slice Ac 2 cc]) := Lib.hid (by rw [hw8, hgd]; exact Bk.new _ _ _)
  rw [← hw8, ← hgd]
  clear hw8 hgd
  have HG8 : Hid (w.grownBy w8 none) := Lib.hid ((grown_up (HG5.out.trans HGS.out) hg7 (fun r e => by injection e with e; rw [← e]; exact HBW.out.1)).trans HG78.out)
  have HB8 : Hid (Bk w8 gp 24 ps.cells) := Lib.hid (((HB5.out.grown HGS.out (by simp)).grown hg7 (fun e => by injection e with e; have := HBW.out.2; omega)).grown HG78.out (by simp))
  have HAT : Hid (∀ W, w8.grownBy W none → W.cell? ⟨b, 2, none⟩ = some (.int .i64 12)) := Lib.hid (fun W hW => by
    obtain ⟨A, c, hb, _⟩ := ti.1
    exact ((hb.grown HG78.out (by simp)).grown hW (by simp)).cell 2)
  have HT1 := Lib.hid (HS1.out.kept HG78.out)
  have HT2 := Lib.hid (HS2.out.kept HG78.out)
  have HT3 := Lib.hid (HS3.out.kept HG78.out)
  clear hg7 ti HTI HG5 HGS HG78 HB5 HBW HS1 HS2 HS3 HMAY HW6
  have hd0 : w8.cell? ⟨gd, 0, none⟩ = some (.slice Am nm cm) := HBD.out.cell 0
  have hd1 : w8.cell? ⟨gd, 1, none⟩ = some (.slice Ar 2 cr) := HBD.out.cell 1
  have hd2 : w8.cell? ⟨gd, 2, none⟩ = some (.slice Ac 2 cc) := HBD.out.cell 2
  go_wp2_with fail
  refine (mk_at18 b 12 w8 (HAT.out w8 (World.grownBy.refl _ none))).mono ?_
  rintro e w9 ⟨rfl, rfl⟩
  go_wp2_with fail
  obtain ⟨wa, hwa⟩ : ∃ y, y = three (three w9 7 8 10 0 0 0 7 9) 3 0 7 4 0 0 9 10 := ⟨_, rfl⟩
  have HGa : Hid (w9.grownBy wa none) := Lib.hid (by rw [hwa]; exact (three_grown _ _ _ _ _ _ _ _ _).trans (three_grown _ _ _ _ _ _ _ _ _))
  obtain ⟨gr, hgr⟩ : ∃ y, y = w9.heap.size + 1 + 1 := ⟨_, rfl⟩
  obtain ⟨gc, hgc⟩ : ∃ y, y = w9.heap.size + 1 + 1 + 1 + 1 + 1 := ⟨_, rfl⟩
  have HRW : Hid (Sl (encS encP) TT wa (.slice (some ⟨gr, 0, none⟩) 2 2) rowL) := Lib.hid (by rw [hwa, hgr]; exact (three_sl w9 7 8 10 0 0 0 7 9 ⟨⟨by decide, by decide⟩, ⟨by decide, by decide⟩⟩ ⟨⟨by decide, by decide⟩, ⟨by decide, by decide⟩⟩ ⟨⟨by decide, by decide⟩, ⟨by decide, by decide⟩⟩ ⟨⟨by decide, by decide⟩, ⟨by decide, by decide⟩⟩).kept (three_grown _ _ _ _ _ _ _ _ _))
  have HCL : Hid (Sl (encS encP) TT wa (.slice (some ⟨gc, 0, none⟩) 2 2) colL) := Lib.hid (by
    rw [hwa, hgc]
    have h := three_sl (three w9 7 8 10 0 0 0 7 9) 3 0 7 4 0 0 9 10 ⟨⟨by decide, by decide⟩, ⟨by decide, by decide⟩⟩ ⟨⟨by decide, by decide⟩, ⟨by decide, by decide⟩⟩ ⟨⟨by decide, by decide⟩, ⟨by decide, by decide⟩⟩ ⟨⟨by decide, by decide⟩, ⟨by decide, by decide⟩⟩
    rw [three_size] at h
    exact h)
  unfold three at hwa
  rw [World.size_alloc, World.size_alloc, World.size_alloc] at hwa
  rw [← hwa, ← hgc, ← hgr]
  clear hgc hgr hwa
  have HB10 : Hid (Bk wa gp 24 ps.cells) := Lib.hid (HB8.out.grown HGa.out (by simp))
  have HBD10 : Hid (Bk wa gd 33 #[.slice Am nm cm, .slice Ar 2 cr, .slice Ac 2 cc]) := Lib.hid (HBD.out.grown HGa.out (by simp))
  have HTa : Hid (TabsAt wa ∧ w.grownBy wa none) := Lib.hid ⟨HTB.out.kept (HG8.out.trans HGa.out), HG8.out.trans HGa.out⟩
  have HMM := Lib.hid (HT1.out.kept HGa.out)
  have HATa : Hid (∀ W, wa.grownBy W none → W.cell? ⟨b, 2, none⟩ = some (.int .i64 12)) := Lib.hid (fun W hW => HAT.out W (HGa.out.trans hW))
  obtain ⟨gR, oR, cR', vR, eR, _, _, hcR, hsR⟩ := (HT2.out.kept HGa.out).atS (k := 1) (by rw [rwn_len]; omega)
  obtain ⟨gC, oC, cC', vC, eC, _, _, hcC, hsC⟩ := (HT3.out.kept HGa.out).atS (k := 0) (by rw [cln_len]; omega)
  injection eR with eR eR2 eR3
  injection eC with eC eC2 eC3
  clear eR2 eR3 eC2 eC3
  subst eR eC
  have HRR : Hid (Sl (encS encP) TT wa vR rowL) := Lib.hid (by
    have e : RWN[1]'(by rw [rwn_len]; omega) = rowL := by have h := rwn_1; rw [List.getElem?_eq_getElem (by rw [rwn_len]; omega)] at h; injection h
    rw [e] at hsR
    exact hsR)
  have HCC : Hid (Sl (encS encP) TT wa vC colL) := Lib.hid (by
    have e : CLN[0]'(by rw [cln_len]; omega) = colL := by have h := cln_0; rw [List.getElem?_eq_getElem (by rw [cln_len]; omega)] at h; injection h
    rw [e] at hsC
    exact hsC)
  obtain ⟨AR, nR, kR, rfl⟩ := HRR.out.shape
  obtain ⟨AC, nC, kC, rfl⟩ := HCC.out.shape
  have HLD : Hid (∀ W, wa.grownBy W none → (∀ o, W.cell? ⟨gp, o, none⟩ = (#[.int .u64 23, .int .u64 11, .int .u64 4, .int .u64 9, .int .i64 4, .int .i64 4, .int .i64 1, .int .i64 1, .int .i64 1, .int .i64 1, .int .i64 1, .int .i64 1] : Array Value)[o]?) ∧ W.cell? ⟨gd, 0, none⟩ = some (.slice Am nm cm) ∧ W.cell? ⟨gd, 1, none⟩ = some (.slice (some ⟨gR, oR, none⟩) 2 cr) ∧ W.cell? ⟨gd, 2, none⟩ = some (.slice (some ⟨gC, oC, none⟩) 2 cc) ∧ W.cell? ⟨gR, oR + 1, none⟩ = some (.slice AR nR kR) ∧ W.cell? ⟨gC, oC, none⟩ = some (.slice AC nC kC)) := Lib.hid (fun W hW => by
    have h1 := HBD10.out.grown hW (by simp)
    exact ⟨(HB10.out.grown hW (by simp)).cell, h1.cell 0, h1.cell 1, h1.cell 2, cellK hcR hW (by simp), cellK hcC hW (by simp)⟩)
  clear hsR hsC hcR hcC HT1 HT2 HT3 HBD HB8 HG8 HAT HGa HBD10 hd0 hd1 hd2
  go_upto_region 10 with (fail)
  have HDR : Hid (wa.grownBy wa.drew none) := Lib.hid (grown_drewN' wa 1)
  refine wp_region_mono 47 (by kernel_rfl) (by kernel_rfl) ?_
  -- op 0 (slot 99): fieldAddr
  refine MonoR.step (Pv.eq (.pointer (some ⟨gd, 1, none⟩))) [] (by kernel_rfl) (fun w' hw' => ?_) ?_
  · refine ask_do rfl fun K hK => ?_
    go_simp
    exact hK _ _ rfl rfl (World.grownBy.refl _ none)
  -- op 1 (slot 100): load
  refine MonoR.step (Pv.eq (.slice (some ⟨gR, oR, none⟩) 2 cr)) [(0, 99)] (by kernel_rfl) (fun w' hw' => ?_) ?_
  · intro x99 h99
    have e99 : x99 = .pointer (some ⟨gd, 1, none⟩) := h99
    clear h99
    subst e99
    refine ask_do rfl fun K hK => ?_
    have qq := HLD.out w' (HDR.out.trans hw')
    have q0 := qq.1
    have q1 := qq.2.1
    have q2 := qq.2.2.1
    have q3 := qq.2.2.2.1
    have q4 := qq.2.2.2.2.1
    have q5 := qq.2.2.2.2.2
    clear qq
    go_simp
    exact hK _ _ rfl rfl (World.grownBy.refl _ none)
  -- op 2 (slot 101): indexAddr
  refine MonoR.step (Pv.eq (.pointer (some ⟨gR, oR + 1, none⟩))) [(1, 100)] (by kernel_rfl) (fun w' hw' => ?_) ?_
  · intro x100 h100
    have e100 : x100 = .slice (some ⟨gR, oR, none⟩) 2 cr := h100
    clear h100
    subst e100
    refine ask_do rfl fun K hK => ?_
    go_simp
    exact hK _ _ rfl rfl (World.grownBy.refl _ none)
  -- op 3 (slot 102): load
  refine MonoR.step (Pv.eq (.slice AR nR kR)) [(2, 101)] (by kernel_rfl) (fun w' hw' => ?_) ?_
  · intro x101 h101
    have e101 : x101 = .pointer (some ⟨gR, oR + 1, none⟩) := h101
    clear h101
    subst e101
    refine ask_do rfl fun K hK => ?_
    have qq := HLD.out w' (HDR.out.trans hw')
    have q0 := qq.1
    have q1 := qq.2.1
    have q2 := qq.2.2.1
    have q3 := qq.2.2.2.1
    have q4 := qq.2.2.2.2.1
    have q5 := qq.2.2.2.2.2
    clear qq
    go_simp
    exact hK _ _ rfl rfl (World.grownBy.refl _ none)
  -- op 4 (slot 103): move
  refine MonoR.step (Pv.eq (.slice (some ⟨gr, 0, none⟩) 2 2)) [] (by kernel_rfl) (fun w' hw' => ?_) ?_
  · refine ask_do rfl fun K hK => ?_
    go_simp
    exact hK _ _ rfl rfl (World.grownBy.refl _ none)
  -- op 5 (slot 104): call
  refine MonoR.step (Pv.eq (.bool true)) [(3, 102), (4, 103)] (by kernel_rfl) (fun w' hw' => ?_) ?_
  · intro x102 h102
    intro x103 h103
    have e102 : x102 = .slice AR nR kR := h102
    clear h102
    subst e102
    have e103 : x103 = .slice (some ⟨gr, 0, none⟩) 2 2 := h103
    clear h103
    subst e103
    refine ask_do rfl fun K hK => ?_
    go_simp
    refine (shares_eq _ _ rowL TT TT w' (HRR.out.kept (HDR.out.trans hw')) (HRW.out.kept (HDR.out.trans hw'))).mono ?_
    rintro e w3 ⟨rfl, m3, rfl⟩
    exact hK _ _ rfl rfl (grown_drewN' w' m3)
  -- op 6 (slot 105): unOp
  refine MonoR.step (Pv.eq (.bool false)) [(5, 104)] (by kernel_rfl) (fun w' hw' => ?_) ?_
  · intro x104 h104
    have e104 : x104 = .bool true := h104
    clear h104
    subst e104
    refine ask_do rfl fun K hK => ?_
    go_simp
    exact hK _ _ rfl rfl (World.grownBy.refl _ none)
  -- op 7 (slot 106): move
  refine MonoR.step (Pv.eq (.bool false)) [(6, 105)] (by kernel_rfl) (fun w' hw' => ?_) ?_
  · intro x105 h105
    have e105 : x105 = .bool false := h105
    clear h105
    subst e105
    refine ask_do rfl fun K hK => ?_
    go_simp
    exact hK _ _ rfl rfl (World.grownBy.refl _ none)
  -- op 8 (slot 107): fieldAddr [(7, 'false')]
  refine MonoR.step (Pv.eq (.pointer (some ⟨gd, 2, none⟩))) [(7, 106)] (by kernel_rfl) (fun w' hw' => ?_) ?_
  · intro x106 h106
    have e106 : x106 = .bool false := h106
    clear h106
    subst e106
    refine ask_do (by kernel_rfl) fun K hK => ?_
    go_simp
    exact hK _ _ rfl rfl (World.grownBy.refl _ none)
  -- op 9 (slot 108): load [(7, 'false')]
  refine MonoR.step (Pv.eq (.slice (some ⟨gC, oC, none⟩) 2 cc)) [(7, 106), (8, 107)] (by kernel_rfl) (fun w' hw' => ?_) ?_
  · intro x106 h106
    intro x107 h107
    have e106 : x106 = .bool false := h106
    clear h106
    subst e106
    have e107 : x107 = .pointer (some ⟨gd, 2, none⟩) := h107
    clear h107
    subst e107
    refine ask_do (by kernel_rfl) fun K hK => ?_
    have qq := HLD.out w' (HDR.out.trans hw')
    have q0 := qq.1
    have q1 := qq.2.1
    have q2 := qq.2.2.1
    have q3 := qq.2.2.2.1
    have q4 := qq.2.2.2.2.1
    have q5 := qq.2.2.2.2.2
    clear qq
    go_simp
    exact hK _ _ rfl rfl (World.grownBy.refl _ none)
  -- op 10 (slot 109): indexAddr [(7, 'false')]
  refine MonoR.step (Pv.eq (.pointer (some ⟨gC, oC, none⟩))) [(7, 106), (9, 108)] (by kernel_rfl) (fun w' hw' => ?_) ?_
  · intro x106 h106
    intro x108 h108
    have e106 : x106 = .bool false := h106
    clear h106
    subst e106
    have e108 : x108 = .slice (some ⟨gC, oC, none⟩) 2 cc := h108
    clear h108
    subst e108
    refine ask_do (by kernel_rfl) fun K hK => ?_
    go_simp
    exact hK _ _ rfl rfl (World.grownBy.refl _ none)
  -- op 11 (slot 110): load [(7, 'false')]
  refine MonoR.step (Pv.eq (.slice AC nC kC)) [(7, 106), (10, 109)] (by kernel_rfl) (fun w' hw' => ?_) ?_
  · intro x106 h106
    intro x109 h109
    have e106 : x106 = .bool false := h106
    clear h106
    subst e106
    have e109 : x109 = .pointer (some ⟨gC, oC, none⟩) := h109
    clear h109
    subst e109
    refine ask_do (by kernel_rfl) fun K hK => ?_
    have qq := HLD.out w' (HDR.out.trans hw')
    have q0 := qq.1
    have q1 := qq.2.1
    have q2 := qq.2.2.1
    have q3 := qq.2.2.2.1
    have q4 := qq.2.2.2.2.1
    have q5 := qq.2.2.2.2.2
    clear qq
    go_simp
    exact hK _ _ rfl rfl (World.grownBy.refl _ none)
  -- op 12 (slot 111): move [(7, 'false')]
  refine MonoR.step (Pv.eq (.slice (some ⟨gc, 0, none⟩) 2 2)) [(7, 106)] (by kernel_rfl) (fun w' hw' => ?_) ?_
  · intro x106 h106
    have e106 : x106 = .bool false := h106
    clear h106
    subst e106
    refine ask_do (by kernel_rfl) fun K hK => ?_
    go_simp
    exact hK _ _ rfl rfl (World.grownBy.refl _ none)
  -- op 13 (slot 112): call [(7, 'false')]
  refine MonoR.step (Pv.eq (.bool true)) [(7, 106), (11, 110), (12, 111)] (by kernel_rfl) (fun w' hw' => ?_) ?_
  · intro x106 h106
    intro x110 h110
    intro x111 h111
    have e106 : x106 = .bool false := h106
    clear h106
    subst e106
    have e110 : x110 = .slice AC nC kC := h110
    clear h110
    subst e110
    have e111 : x111 = .slice (some ⟨gc, 0, none⟩) 2 2 := h111
    clear h111
    subst e111
    refine ask_do (by kernel_rfl) fun K hK => ?_
    go_simp
    refine (shares_eq _ _ colL TT TT w' (HCC.out.kept (HDR.out.trans hw')) (HCL.out.kept (HDR.out.trans hw'))).mono ?_
    rintro e w3 ⟨rfl, m3, rfl⟩
    exact hK _ _ rfl rfl (grown_drewN' w' m3)
  -- op 14 (slot 113): unOp [(7, 'false')]
  refine MonoR.step (Pv.eq (.bool false)) [(7, 106), (13, 112)] (by kernel_rfl) (fun w' hw' => ?_) ?_
  · intro x106 h106
    intro x112 h112
    have e106 : x106 = .bool false := h106
    clear h106
    subst e106
    have e112 : x112 = .bool true := h112
    clear h112
    subst e112
    refine ask_do (by kernel_rfl) fun K hK => ?_
    go_simp
    exact hK _ _ rfl rfl (World.grownBy.refl _ none)
  -- op 15 (slot 114): pick
  refine MonoR.step (Pv.eq (.bool false)) [(7, 106), (14, 113)] (by kernel_rfl) (fun w' hw' => ?_) ?_
  · intro x106 h106
    intro x113 h113
    have e106 : x106 = .bool false := h106
    clear h106
    subst e106
    have e113 : x113 = .bool false := h113
    clear h113
    subst e113
    refine ask_do rfl fun K hK => ?_
    go_simp
    exact hK _ _ rfl rfl (World.grownBy.refl _ none)
  -- op 16 (slot 115): move
  refine MonoR.step (Pv.eq (.bool false)) [(15, 114)] (by kernel_rfl) (fun w' hw' => ?_) ?_
  · intro x114 h114
    have e114 : x114 = .bool false := h114
    clear h114
    subst e114
    refine ask_do rfl fun K hK => ?_
    go_simp
    exact hK _ _ rfl rfl (World.grownBy.refl _ none)
  -- op 17 (slot 116): load [(16, 'false')]
  refine MonoR.step (Pv.eq (ps.v)) [(16, 115)] (by kernel_rfl) (fun w' hw' => ?_) ?_
  · intro x115 h115
    have e115 : x115 = .bool false := h115
    clear h115
    subst e115
    refine ask_do (by kernel_rfl) fun K hK => ?_
    have qq := HLD.out w' (HDR.out.trans hw')
    have q0 := qq.1
    have q1 := qq.2.1
    have q2 := qq.2.2.1
    have q3 := qq.2.2.2.1
    have q4 := qq.2.2.2.2.1
    have q5 := qq.2.2.2.2.2
    clear qq
    go_simp
    exact hK _ _ rfl rfl (World.grownBy.refl _ none)
  -- op 18 (slot 117): fieldAddr [(16, 'false')]
  refine MonoR.step (Pv.eq (.pointer (some ⟨gd, 0, none⟩))) [(16, 115)] (by kernel_rfl) (fun w' hw' => ?_) ?_
  · intro x115 h115
    have e115 : x115 = .bool false := h115
    clear h115
    subst e115
    refine ask_do (by kernel_rfl) fun K hK => ?_
    go_simp
    exact hK _ _ rfl rfl (World.grownBy.refl _ none)
  -- op 19 (slot 118): load [(16, 'false')]
  refine MonoR.step (Pv.eq (.slice Am nm cm)) [(16, 115), (18, 117)] (by kernel_rfl) (fun w' hw' => ?_) ?_
  · intro x115 h115
    intro x117 h117
    have e115 : x115 = .bool false := h115
    clear h115
    subst e115
    have e117 : x117 = .pointer (some ⟨gd, 0, none⟩) := h117
    clear h117
    subst e117
    refine ask_do (by kernel_rfl) fun K hK => ?_
    have qq := HLD.out w' (HDR.out.trans hw')
    have q0 := qq.1
    have q1 := qq.2.1
    have q2 := qq.2.2.1
    have q3 := qq.2.2.2.1
    have q4 := qq.2.2.2.2.1
    have q5 := qq.2.2.2.2.2
    clear qq
    go_simp
    exact hK _ _ rfl rfl (World.grownBy.refl _ none)
  -- op 20 (slot 119): move [(16, 'false')]
  refine MonoR.step (Pv.eq (.slice (some ⟨gr, 0, none⟩) 2 2)) [(16, 115)] (by kernel_rfl) (fun w' hw' => ?_) ?_
  · intro x115 h115
    have e115 : x115 = .bool false := h115
    clear h115
    subst e115
    refine ask_do (by kernel_rfl) fun K hK => ?_
    go_simp
    exact hK _ _ rfl rfl (World.grownBy.refl _ none)
  -- op 21 (slot 120): call [(16, 'false')]
  refine MonoR.step (Pv.eq (.bool true)) [(16, 115), (17, 116), (19, 118), (20, 119)] (by kernel_rfl) (fun w' hw' => ?_) ?_
  · intro x115 h115
    intro x116 h116
    intro x118 h118
    intro x119 h119
    have e115 : x115 = .bool false := h115
    clear h115
    subst e115
    have e116 : x116 = ps.v := h116
    clear h116
    subst e116
    have e118 : x118 = .slice Am nm cm := h118
    clear h118
    subst e118
    have e119 : x119 = .slice (some ⟨gr, 0, none⟩) 2 2 := h119
    clear h119
    subst e119
    refine ask_do (by kernel_rfl) fun K hK => ?_
    go_simp
    have hh := drowFits_any ps _ _ MN 2 _ TT TT w' ps_ok (HMM.out.kept (HDR.out.trans hw')) ⟨by decide, by decide⟩ (HRW.out.kept (HDR.out.trans hw')) mn_b1 mn_b2 (by decide) (by decide)
    rw [fit_1] at hh
    refine hh.mono ?_
    rintro e w3 ⟨rfl, hg⟩
    exact hK _ _ rfl rfl hg
  -- op 22 (slot 121): unOp [(16, 'false')]
  refine MonoR.step (Pv.eq (.bool false)) [(16, 115), (21, 120)] (by kernel_rfl) (fun w' hw' => ?_) ?_
  · intro x115 h115
    intro x120 h120
    have e115 : x115 = .bool false := h115
    clear h115
    subst e115
    have e120 : x120 = .bool true := h120
    clear h120
    subst e120
    refine ask_do (by kernel_rfl) fun K hK => ?_
    go_simp
    exact hK _ _ rfl rfl (World.grownBy.refl _ none)
  -- op 23 (slot 122): pick
  refine MonoR.step (Pv.eq (.bool false)) [(16, 115), (22, 121)] (by kernel_rfl) (fun w' hw' => ?_) ?_
  · intro x115 h115
    intro x121 h121
    have e115 : x115 = .bool false := h115
    clear h115
    subst e115
    have e121 : x121 = .bool false := h121
    clear h121
    subst e121
    refine ask_do rfl fun K hK => ?_
    go_simp
    exact hK _ _ rfl rfl (World.grownBy.refl _ none)
  -- op 24 (slot 123): move
  refine MonoR.step (Pv.eq (.bool false)) [(23, 122)] (by kernel_rfl) (fun w' hw' => ?_) ?_
  · intro x122 h122
    have e122 : x122 = .bool false := h122
    clear h122
    subst e122
    refine ask_do rfl fun K hK => ?_
    go_simp
    exact hK _ _ rfl rfl (World.grownBy.refl _ none)
  -- op 25 (slot 124): load [(24, 'false')]
  refine MonoR.step (Pv.eq (ps.v)) [(24, 123)] (by kernel_rfl) (fun w' hw' => ?_) ?_
  · intro x123 h123
    have e123 : x123 = .bool false := h123
    clear h123
    subst e123
    refine ask_do (by kernel_rfl) fun K hK => ?_
    have qq := HLD.out w' (HDR.out.trans hw')
    have q0 := qq.1
    have q1 := qq.2.1
    have q2 := qq.2.2.1
    have q3 := qq.2.2.2.1
    have q4 := qq.2.2.2.2.1
    have q5 := qq.2.2.2.2.2
    clear qq
    go_simp
    exact hK _ _ rfl rfl (World.grownBy.refl _ none)
  -- op 26 (slot 125): fieldAddr [(24, 'false')]
  refine MonoR.step (Pv.eq (.pointer (some ⟨gd, 0, none⟩))) [(24, 123)] (by kernel_rfl) (fun w' hw' => ?_) ?_
  · intro x123 h123
    have e123 : x123 = .bool false := h123
    clear h123
    subst e123
    refine ask_do (by kernel_rfl) fun K hK => ?_
    go_simp
    exact hK _ _ rfl rfl (World.grownBy.refl _ none)
  -- op 27 (slot 126): load [(24, 'false')]
  refine MonoR.step (Pv.eq (.slice Am nm cm)) [(24, 123), (26, 125)] (by kernel_rfl) (fun w' hw' => ?_) ?_
  · intro x123 h123
    intro x125 h125
    have e123 : x123 = .bool false := h123
    clear h123
    subst e123
    have e125 : x125 = .pointer (some ⟨gd, 0, none⟩) := h125
    clear h125
    subst e125
    refine ask_do (by kernel_rfl) fun K hK => ?_
    have qq := HLD.out w' (HDR.out.trans hw')
    have q0 := qq.1
    have q1 := qq.2.1
    have q2 := qq.2.2.1
    have q3 := qq.2.2.2.1
    have q4 := qq.2.2.2.2.1
    have q5 := qq.2.2.2.2.2
    clear qq
    go_simp
    exact hK _ _ rfl rfl (World.grownBy.refl _ none)
  -- op 28 (slot 127): move [(24, 'false')]
  refine MonoR.step (Pv.eq (.slice (some ⟨gr, 0, none⟩) 2 2)) [(24, 123)] (by kernel_rfl) (fun w' hw' => ?_) ?_
  · intro x123 h123
    have e123 : x123 = .bool false := h123
    clear h123
    subst e123
    refine ask_do (by kernel_rfl) fun K hK => ?_
    go_simp
    exact hK _ _ rfl rfl (World.grownBy.refl _ none)
  -- op 29 (slot 128): call [(24, 'false')]
  refine MonoR.step (Pv.eq (.bool false)) [(24, 123), (25, 124), (27, 126), (28, 127)] (by kernel_rfl) (fun w' hw' => ?_) ?_
  · intro x123 h123
    intro x124 h124
    intro x126 h126
    intro x127 h127
    have e123 : x123 = .bool false := h123
    clear h123
    subst e123
    have e124 : x124 = ps.v := h124
    clear h124
    subst e124
    have e126 : x126 = .slice Am nm cm := h126
    clear h126
    subst e126
    have e127 : x127 = .slice (some ⟨gr, 0, none⟩) 2 2 := h127
    clear h127
    subst e127
    refine ask_do (by kernel_rfl) fun K hK => ?_
    go_simp
    have hh := drowFits_any ps _ _ MN 1 _ TT TT w' ps_ok (HMM.out.kept (HDR.out.trans hw')) ⟨by decide, by decide⟩ (HRW.out.kept (HDR.out.trans hw')) mn_b1 mn_b2 (by decide) (by decide)
    rw [fit_2] at hh
    refine hh.mono ?_
    rintro e w3 ⟨rfl, hg⟩
    exact hK _ _ rfl rfl hg
  -- op 30 (slot 129): pick
  refine MonoR.step (Pv.eq (.bool false)) [(24, 123), (29, 128)] (by kernel_rfl) (fun w' hw' => ?_) ?_
  · intro x123 h123
    intro x128 h128
    have e123 : x123 = .bool false := h123
    clear h123
    subst e123
    have e128 : x128 = .bool false := h128
    clear h128
    subst e128
    refine ask_do rfl fun K hK => ?_
    go_simp
    exact hK _ _ rfl rfl (World.grownBy.refl _ none)
  -- op 31 (slot 130): move
  refine MonoR.step (Pv.eq (.bool false)) [(30, 129)] (by kernel_rfl) (fun w' hw' => ?_) ?_
  · intro x129 h129
    have e129 : x129 = .bool false := h129
    clear h129
    subst e129
    refine ask_do rfl fun K hK => ?_
    go_simp
    exact hK _ _ rfl rfl (World.grownBy.refl _ none)
  -- op 32 (slot 131): load [(31, 'false')]
  refine MonoR.step (Pv.eq (ps.v)) [(31, 130)] (by kernel_rfl) (fun w' hw' => ?_) ?_
  · intro x130 h130
    have e130 : x130 = .bool false := h130
    clear h130
    subst e130
    refine ask_do (by kernel_rfl) fun K hK => ?_
    have qq := HLD.out w' (HDR.out.trans hw')
    have q0 := qq.1
    have q1 := qq.2.1
    have q2 := qq.2.2.1
    have q3 := qq.2.2.2.1
    have q4 := qq.2.2.2.2.1
    have q5 := qq.2.2.2.2.2
    clear qq
    go_simp
    exact hK _ _ rfl rfl (World.grownBy.refl _ none)
  -- op 33 (slot 132): fieldAddr [(31, 'false')]
  refine MonoR.step (Pv.eq (.pointer (some ⟨gd, 0, none⟩))) [(31, 130)] (by kernel_rfl) (fun w' hw' => ?_) ?_
  · intro x130 h130
    have e130 : x130 = .bool false := h130
    clear h130
    subst e130
    refine ask_do (by kernel_rfl) fun K hK => ?_
    go_simp
    exact hK _ _ rfl rfl (World.grownBy.refl _ none)
  -- op 34 (slot 133): load [(31, 'false')]
  refine MonoR.step (Pv.eq (.slice Am nm cm)) [(31, 130), (33, 132)] (by kernel_rfl) (fun w' hw' => ?_) ?_
  · intro x130 h130
    intro x132 h132
    have e130 : x130 = .bool false := h130
    clear h130
    subst e130
    have e132 : x132 = .pointer (some ⟨gd, 0, none⟩) := h132
    clear h132
    subst e132
    refine ask_do (by kernel_rfl) fun K hK => ?_
    have qq := HLD.out w' (HDR.out.trans hw')
    have q0 := qq.1
    have q1 := qq.2.1
    have q2 := qq.2.2.1
    have q3 := qq.2.2.2.1
    have q4 := qq.2.2.2.2.1
    have q5 := qq.2.2.2.2.2
    clear qq
    go_simp
    exact hK _ _ rfl rfl (World.grownBy.refl _ none)
  -- op 35 (slot 134): move [(31, 'false')]
  refine MonoR.step (Pv.eq (.slice (some ⟨gc, 0, none⟩) 2 2)) [(31, 130)] (by kernel_rfl) (fun w' hw' => ?_) ?_
  · intro x130 h130
    have e130 : x130 = .bool false := h130
    clear h130
    subst e130
    refine ask_do (by kernel_rfl) fun K hK => ?_
    go_simp
    exact hK _ _ rfl rfl (World.grownBy.refl _ none)
  -- op 36 (slot 135): call [(31, 'false')]
  refine MonoR.step (Pv.eq (.bool true)) [(31, 130), (32, 131), (34, 133), (35, 134)] (by kernel_rfl) (fun w' hw' => ?_) ?_
  · intro x130 h130
    intro x131 h131
    intro x133 h133
    intro x134 h134
    have e130 : x130 = .bool false := h130
    clear h130
    subst e130
    have e131 : x131 = ps.v := h131
    clear h131
    subst e131
    have e133 : x133 = .slice Am nm cm := h133
    clear h133
    subst e133
    have e134 : x134 = .slice (some ⟨gc, 0, none⟩) 2 2 := h134
    clear h134
    subst e134
    refine ask_do (by kernel_rfl) fun K hK => ?_
    go_simp
    have hh := dcolFits_any ps _ _ MN 1 _ TT TT w' ps_ok (HMM.out.kept (HDR.out.trans hw')) ⟨by decide, by decide⟩ (HCL.out.kept (HDR.out.trans hw')) mn_b1 mn_b2 (by decide) (by decide)
    rw [fit_3] at hh
    refine hh.mono ?_
    rintro e w3 ⟨rfl, hg⟩
    exact hK _ _ rfl rfl hg
  -- op 37 (slot 136): unOp [(31, 'false')]
  refine MonoR.step (Pv.eq (.bool false)) [(31, 130), (36, 135)] (by kernel_rfl) (fun w' hw' => ?_) ?_
  · intro x130 h130
    intro x135 h135
    have e130 : x130 = .bool false := h130
    clear h130
    subst e130
    have e135 : x135 = .bool true := h135
    clear h135
    subst e135
    refine ask_do (by kernel_rfl) fun K hK => ?_
    go_simp
    exact hK _ _ rfl rfl (World.grownBy.refl _ none)
  -- op 38 (slot 137): pick
  refine MonoR.step (Pv.eq (.bool false)) [(31, 130), (37, 136)] (by kernel_rfl) (fun w' hw' => ?_) ?_
  · intro x130 h130
    intro x136 h136
    have e130 : x130 = .bool false := h130
    clear h130
    subst e130
    have e136 : x136 = .bool false := h136
    clear h136
    subst e136
    refine ask_do rfl fun K hK => ?_
    go_simp
    exact hK _ _ rfl rfl (World.grownBy.refl _ none)
  -- op 39 (slot 138): move
  refine MonoR.step (Pv.eq (.bool false)) [(38, 137)] (by kernel_rfl) (fun w' hw' => ?_) ?_
  · intro x137 h137
    have e137 : x137 = .bool false := h137
    clear h137
    subst e137
    refine ask_do rfl fun K hK => ?_
    go_simp
    exact hK _ _ rfl rfl (World.grownBy.refl _ none)
  -- op 40 (slot 139): load [(39, 'false')]
  refine MonoR.step (Pv.eq (ps.v)) [(39, 138)] (by kernel_rfl) (fun w' hw' => ?_) ?_
  · intro x138 h138
    have e138 : x138 = .bool false := h138
    clear h138
    subst e138
    refine ask_do (by kernel_rfl) fun K hK => ?_
    have qq := HLD.out w' (HDR.out.trans hw')
    have q0 := qq.1
    have q1 := qq.2.1
    have q2 := qq.2.2.1
    have q3 := qq.2.2.2.1
    have q4 := qq.2.2.2.2.1
    have q5 := qq.2.2.2.2.2
    clear qq
    go_simp
    exact hK _ _ rfl rfl (World.grownBy.refl _ none)
  -- op 41 (slot 140): fieldAddr [(39, 'false')]
  refine MonoR.step (Pv.eq (.pointer (some ⟨gd, 0, none⟩))) [(39, 138)] (by kernel_rfl) (fun w' hw' => ?_) ?_
  · intro x138 h138
    have e138 : x138 = .bool false := h138
    clear h138
    subst e138
    refine ask_do (by kernel_rfl) fun K hK => ?_
    go_simp
    exact hK _ _ rfl rfl (World.grownBy.refl _ none)
  -- op 42 (slot 141): load [(39, 'false')]
  refine MonoR.step (Pv.eq (.slice Am nm cm)) [(39, 138), (41, 140)] (by kernel_rfl) (fun w' hw' => ?_) ?_
  · intro x138 h138
    intro x140 h140
    have e138 : x138 = .bool false := h138
    clear h138
    subst e138
    have e140 : x140 = .pointer (some ⟨gd, 0, none⟩) := h140
    clear h140
    subst e140
    refine ask_do (by kernel_rfl) fun K hK => ?_
    have qq := HLD.out w' (HDR.out.trans hw')
    have q0 := qq.1
    have q1 := qq.2.1
    have q2 := qq.2.2.1
    have q3 := qq.2.2.2.1
    have q4 := qq.2.2.2.2.1
    have q5 := qq.2.2.2.2.2
    clear qq
    go_simp
    exact hK _ _ rfl rfl (World.grownBy.refl _ none)
  -- op 43 (slot 142): move [(39, 'false')]
  refine MonoR.step (Pv.eq (.slice (some ⟨gc, 0, none⟩) 2 2)) [(39, 138)] (by kernel_rfl) (fun w' hw' => ?_) ?_
  · intro x138 h138
    have e138 : x138 = .bool false := h138
    clear h138
    subst e138
    refine ask_do (by kernel_rfl) fun K hK => ?_
    go_simp
    exact hK _ _ rfl rfl (World.grownBy.refl _ none)
  -- op 44 (slot 143): slice [(39, 'false')]
  refine MonoR.step (Pv.eq (.slice (some ⟨gc, 0, none⟩) 1 2)) [(39, 138), (43, 142)] (by kernel_rfl) (fun w' hw' => ?_) ?_
  · intro x138 h138
    intro x142 h142
    have e138 : x138 = .bool false := h138
    clear h138
    subst e138
    have e142 : x142 = .slice (some ⟨gc, 0, none⟩) 2 2 := h142
    clear h142
    subst e142
    refine ask_do (by kernel_rfl) fun K hK => ?_
    go_simp
    exact hK _ _ rfl rfl (World.grownBy.refl _ none)
  -- op 45 (slot 144): call [(39, 'false')]
  refine MonoR.step (Pv.eq (.bool false)) [(39, 138), (40, 139), (42, 141), (44, 143)] (by kernel_rfl) (fun w' hw' => ?_) ?_
  · intro x138 h138
    intro x139 h139
    intro x141 h141
    intro x143 h143
    have e138 : x138 = .bool false := h138
    clear h138
    subst e138
    have e139 : x139 = ps.v := h139
    clear h139
    subst e139
    have e141 : x141 = .slice Am nm cm := h141
    clear h141
    subst e141
    have e143 : x143 = .slice (some ⟨gc, 0, none⟩) 1 2 := h143
    clear h143
    subst e143
    refine ask_do (by kernel_rfl) fun K hK => ?_
    go_simp
    have hh := dcolFits_any ps _ _ MN 1 _ TT TT w' ps_ok (HMM.out.kept (HDR.out.trans hw')) ⟨by decide, by decide⟩ ((HCL.out.kept (HDR.out.trans hw')).take 1 (by decide)) mn_b1 mn_b2 (by decide) (by decide)
    rw [fit_4] at hh
    refine hh.mono ?_
    rintro e w3 ⟨rfl, hg⟩
    exact hK _ _ rfl rfl hg
  -- op 46 (slot 145): pick
  refine MonoR.step (Pv.eq (.bool false)) [(39, 138), (45, 144)] (by kernel_rfl) (fun w' hw' => ?_) ?_
  · intro x138 h138
    intro x144 h144
    have e138 : x138 = .bool false := h138
    clear h138
    subst e138
    have e144 : x144 = .bool false := h144
    clear h144
    subst e144
    refine ask_do rfl fun K hK => ?_
    go_simp
    exact hK _ _ rfl rfl (World.grownBy.refl _ none)
  
  intro wb hwb
  intro y0 k0 y1 k1 y2 k2 y3 k3 y4 k4 y5 k5 y6 k6 y7 k7 y8 k8 y9 k9 y10 k10 y11 k11 y12 k12 y13 k13 y14 k14 y15 k15 y16 k16 y17 k17 y18 k18 y19 k19 y20 k20 y21 k21 y22 k22 y23 k23 y24 k24 y25 k25 y26 k26 y27 k27 y28 k28 y29 k29 y30 k30 y31 k31 y32 k32 y33 k33 y34 k34 y35 k35 y36 k36 y37 k37 y38 k38 y39 k39 y40 k40 y41 k41 y42 k42 y43 k43 y44 k44 y45 k45 y46 k46
  have e46 : y46 = .bool false := k46
  subst e46
  have HWB := Lib.hid (HDR.out.trans hwb)
  clear k0 k1 k2 k3 k4 k5 k6 k7 k8 k9 k10 k11 k12 k13 k14 k15 k16 k17 k18 k19 k20 k21 k22 k23 k24 k25 k26 k27 k28 k29 k30 k31 k32 k33 k34 k35 k36 k37 k38 k39 k40 k41 k42 k43 k44 k45 k46 hwb
  refine wpList_nil ?_
  simp only [Act.put, List.setIfInBounds_toArray, List.set_cons_zero, List.set_cons_succ]
  go_upto_region 12 with (fail)
  obtain ⟨wc, hwc⟩ : ∃ y, y = wb.alloc (Obj.cells #[.int .u64 6, .int .u64 8, .int .u64 7, .int .u64 9] 38) := ⟨_, rfl⟩
  obtain ⟨gt, hgt⟩ : ∃ y, y = wb.heap.size := ⟨_, rfl⟩
  have HPT : Hid (Sl encP TT wc (.slice (some ⟨gt, 0, none⟩) 2 2) ptL) := Lib.hid (by rw [hwc, hgt]; exact slP2 wb 6 8 7 9 ⟨by decide, by decide⟩ ⟨by decide, by decide⟩)
  have HGc : Hid (wa.grownBy wc none) := Lib.hid (by rw [hwc]; exact HWB.out.trans (World.grownBy_alloc _ _ none))
  go_upto_region 13 with (fail)
  rw [← hwc, ← hgt]
  clear hwc hgt HWB
  have HLE : Hid (∀ W, wc.grownBy W none → (∀ o, W.cell? ⟨gp, o, none⟩ = (#[.int .u64 23, .int .u64 11, .int .u64 4, .int .u64 9, .int .i64 4, .int .i64 4, .int .i64 1, .int .i64 1, .int .i64 1, .int .i64 1, .int .i64 1, .int .i64 1] : Array Value)[o]?) ∧ W.cell? ⟨gd, 0, none⟩ = some (.slice Am nm cm)) := Lib.hid (fun W hW => by
    have h := HLD.out W (HGc.out.trans hW)
    exact ⟨h.1, h.2.1⟩)
  have HRWc := Lib.hid (HRW.out.kept HGc.out)
  have HCLc := Lib.hid (HCL.out.kept HGc.out)
  have HMMc := Lib.hid (HMM.out.kept HGc.out)
  refine wp_region_seqm 27 (by kernel_rfl) ?_
  -- op 0 (slot 149): move
  refine MonoR.step (Pv.eq (.slice (some ⟨gr, 0, none⟩) 2 2)) [] (by kernel_rfl) (fun w' hw' => ?_) ?_
  · refine ask_do rfl fun K hK => ?_
    go_simp
    exact hK _ _ rfl rfl (World.grownBy.refl _ none)
  -- op 1 (slot 150): call
  refine MonoR.step (Pv.sl (encP) TT ptL) [(0, 149)] (by kernel_rfl) (fun w' hw' => ?_) ?_
  · intro x149 h149
    have e149 : x149 = .slice (some ⟨gr, 0, none⟩) 2 2 := h149
    clear h149
    subst e149
    refine ask_do rfl fun K hK => ?_
    go_simp
    have hh := dat_any _ rowL 1 11 TT w' (HRWc.out.kept hw') ⟨by decide, by decide⟩ (by decide) (by decide)
    rw [at_1] at hh
    refine hh.mono ?_
    rintro e w3 ⟨v3, rfl, h3, hg⟩
    exact hK _ _ rfl (h3.more (fun _ _ _ => trivial)) hg
  -- op 2 (slot 151): move
  refine MonoR.step (Pv.eq (.slice (some ⟨gt, 0, none⟩) 2 2)) [] (by kernel_rfl) (fun w' hw' => ?_) ?_
  · refine ask_do rfl fun K hK => ?_
    go_simp
    exact hK _ _ rfl rfl (World.grownBy.refl _ none)
  -- op 3 (slot 152): call
  refine MonoR.step (Pv.eq (.bool true)) [(1, 150), (2, 151)] (by kernel_rfl) (fun w' hw' => ?_) ?_
  · intro x150 h150
    have h150 : Sl (encP) TT w' x150 ptL := h150
    obtain ⟨A150, c150, e150, k150, l150⟩ := h150.form
    have e150 : x150 = .slice A150 ptL.length c150 := e150
    subst e150
    intro x151 h151
    have e151 : x151 = .slice (some ⟨gt, 0, none⟩) 2 2 := h151
    clear h151
    subst e151
    refine ask_do rfl fun K hK => ?_
    go_simp
    refine (same_eq _ _ ptL TT TT w' h150 (HPT.out.kept hw')).mono ?_
    rintro e w3 ⟨rfl, m3, rfl⟩
    exact hK _ _ rfl rfl (grown_drewN' w' m3)
  -- op 4 (slot 153): unOp
  refine MonoR.step (Pv.eq (.bool false)) [(3, 152)] (by kernel_rfl) (fun w' hw' => ?_) ?_
  · intro x152 h152
    have e152 : x152 = .bool true := h152
    clear h152
    subst e152
    refine ask_do rfl fun K hK => ?_
    go_simp
    exact hK _ _ rfl rfl (World.grownBy.refl _ none)
  -- op 5 (slot 154): move
  refine MonoR.step (Pv.eq (.bool false)) [(4, 153)] (by kernel_rfl) (fun w' hw' => ?_) ?_
  · intro x153 h153
    have e153 : x153 = .bool false := h153
    clear h153
    subst e153
    refine ask_do rfl fun K hK => ?_
    go_simp
    exact hK _ _ rfl rfl (World.grownBy.refl _ none)
  -- op 6 (slot 155): move [(5, 'false')]
  refine MonoR.step (Pv.eq (.slice (some ⟨gc, 0, none⟩) 2 2)) [(5, 154)] (by kernel_rfl) (fun w' hw' => ?_) ?_
  · intro x154 h154
    have e154 : x154 = .bool false := h154
    clear h154
    subst e154
    refine ask_do (by kernel_rfl) fun K hK => ?_
    go_simp
    exact hK _ _ rfl rfl (World.grownBy.refl _ none)
  -- op 7 (slot 156): call [(5, 'false')]
  refine MonoR.step (Pv.sl (encP) TT ptL) [(5, 154), (6, 155)] (by kernel_rfl) (fun w' hw' => ?_) ?_
  · intro x154 h154
    intro x155 h155
    have e154 : x154 = .bool false := h154
    clear h154
    subst e154
    have e155 : x155 = .slice (some ⟨gc, 0, none⟩) 2 2 := h155
    clear h155
    subst e155
    refine ask_do (by kernel_rfl) fun K hK => ?_
    go_simp
    have hh := dat_any _ colL 2 11 TT w' (HCLc.out.kept hw') ⟨by decide, by decide⟩ (by decide) (by decide)
    rw [at_2] at hh
    refine hh.mono ?_
    rintro e w3 ⟨v3, rfl, h3, hg⟩
    exact hK _ _ rfl (h3.more (fun _ _ _ => trivial)) hg
  -- op 8 (slot 157): move [(5, 'false')]
  refine MonoR.step (Pv.eq (.slice (some ⟨gt, 0, none⟩) 2 2)) [(5, 154)] (by kernel_rfl) (fun w' hw' => ?_) ?_
  · intro x154 h154
    have e154 : x154 = .bool false := h154
    clear h154
    subst e154
    refine ask_do (by kernel_rfl) fun K hK => ?_
    go_simp
    exact hK _ _ rfl rfl (World.grownBy.refl _ none)
  -- op 9 (slot 158): call [(5, 'false')]
  refine MonoR.step (Pv.eq (.bool true)) [(5, 154), (7, 156), (8, 157)] (by kernel_rfl) (fun w' hw' => ?_) ?_
  · intro x154 h154
    intro x156 h156
    have h156 : Sl (encP) TT w' x156 ptL := h156
    obtain ⟨A156, c156, e156, k156, l156⟩ := h156.form
    have e156 : x156 = .slice A156 ptL.length c156 := e156
    subst e156
    intro x157 h157
    have e154 : x154 = .bool false := h154
    clear h154
    subst e154
    have e157 : x157 = .slice (some ⟨gt, 0, none⟩) 2 2 := h157
    clear h157
    subst e157
    refine ask_do (by kernel_rfl) fun K hK => ?_
    go_simp
    refine (same_eq _ _ ptL TT TT w' h156 (HPT.out.kept hw')).mono ?_
    rintro e w3 ⟨rfl, m3, rfl⟩
    exact hK _ _ rfl rfl (grown_drewN' w' m3)
  -- op 10 (slot 159): unOp [(5, 'false')]
  refine MonoR.step (Pv.eq (.bool false)) [(5, 154), (9, 158)] (by kernel_rfl) (fun w' hw' => ?_) ?_
  · intro x154 h154
    intro x158 h158
    have e154 : x154 = .bool false := h154
    clear h154
    subst e154
    have e158 : x158 = .bool true := h158
    clear h158
    subst e158
    refine ask_do (by kernel_rfl) fun K hK => ?_
    go_simp
    exact hK _ _ rfl rfl (World.grownBy.refl _ none)
  -- op 11 (slot 160): pick
  refine MonoR.step (Pv.eq (.bool false)) [(5, 154), (10, 159)] (by kernel_rfl) (fun w' hw' => ?_) ?_
  · intro x154 h154
    intro x159 h159
    have e154 : x154 = .bool false := h154
    clear h154
    subst e154
    have e159 : x159 = .bool false := h159
    clear h159
    subst e159
    refine ask_do rfl fun K hK => ?_
    go_simp
    exact hK _ _ rfl rfl (World.grownBy.refl _ none)
  -- op 12 (slot 161): move
  refine MonoR.step (Pv.eq (.bool false)) [(11, 160)] (by kernel_rfl) (fun w' hw' => ?_) ?_
  · intro x160 h160
    have e160 : x160 = .bool false := h160
    clear h160
    subst e160
    refine ask_do rfl fun K hK => ?_
    go_simp
    exact hK _ _ rfl rfl (World.grownBy.refl _ none)
  -- op 13 (slot 162): load [(12, 'false')]
  refine MonoR.step (Pv.eq (ps.v)) [(12, 161)] (by kernel_rfl) (fun w' hw' => ?_) ?_
  · intro x161 h161
    have e161 : x161 = .bool false := h161
    clear h161
    subst e161
    refine ask_do (by kernel_rfl) fun K hK => ?_
    have qq := HLE.out w' hw'
    have q0 := qq.1
    have q1 := qq.2
    clear qq
    go_simp
    exact hK _ _ rfl rfl (World.grownBy.refl _ none)
  -- op 14 (slot 163): fieldAddr [(12, 'false')]
  refine MonoR.step (Pv.eq (.pointer (some ⟨gd, 0, none⟩))) [(12, 161)] (by kernel_rfl) (fun w' hw' => ?_) ?_
  · intro x161 h161
    have e161 : x161 = .bool false := h161
    clear h161
    subst e161
    refine ask_do (by kernel_rfl) fun K hK => ?_
    go_simp
    exact hK _ _ rfl rfl (World.grownBy.refl _ none)
  -- op 15 (slot 164): load [(12, 'false')]
  refine MonoR.step (Pv.eq (.slice Am nm cm)) [(12, 161), (14, 163)] (by kernel_rfl) (fun w' hw' => ?_) ?_
  · intro x161 h161
    intro x163 h163
    have e161 : x161 = .bool false := h161
    clear h161
    subst e161
    have e163 : x163 = .pointer (some ⟨gd, 0, none⟩) := h163
    clear h163
    subst e163
    refine ask_do (by kernel_rfl) fun K hK => ?_
    have qq := HLE.out w' hw'
    have q0 := qq.1
    have q1 := qq.2
    clear qq
    go_simp
    exact hK _ _ rfl rfl (World.grownBy.refl _ none)
  -- op 16 (slot 165): move [(12, 'false')]
  refine MonoR.step (Pv.eq (.slice (some ⟨gt, 0, none⟩) 2 2)) [(12, 161)] (by kernel_rfl) (fun w' hw' => ?_) ?_
  · intro x161 h161
    have e161 : x161 = .bool false := h161
    clear h161
    subst e161
    refine ask_do (by kernel_rfl) fun K hK => ?_
    go_simp
    exact hK _ _ rfl rfl (World.grownBy.refl _ none)
  -- op 17 (slot 166): call [(12, 'false')]
  refine MonoR.step (Pv.eq (.bool true)) [(12, 161), (13, 162), (15, 164), (16, 165)] (by kernel_rfl) (fun w' hw' => ?_) ?_
  · intro x161 h161
    intro x162 h162
    intro x164 h164
    intro x165 h165
    have e161 : x161 = .bool false := h161
    clear h161
    subst e161
    have e162 : x162 = ps.v := h162
    clear h162
    subst e162
    have e164 : x164 = .slice Am nm cm := h164
    clear h164
    subst e164
    have e165 : x165 = .slice (some ⟨gt, 0, none⟩) 2 2 := h165
    clear h165
    subst e165
    refine ask_do (by kernel_rfl) fun K hK => ?_
    go_simp
    have hh := dmeets_any ps _ _ MN 2 1 ptL TT TT w' ps_ok (HMMc.out.kept hw') ⟨by decide, by decide⟩ ⟨by decide, by decide⟩ (HPT.out.kept hw') mn_b1 mn_b2 (by decide)
    rw [meet_1] at hh
    refine hh.mono ?_
    rintro e w3 ⟨rfl, hg⟩
    exact hK _ _ rfl rfl hg
  -- op 18 (slot 167): unOp [(12, 'false')]
  refine MonoR.step (Pv.eq (.bool false)) [(12, 161), (17, 166)] (by kernel_rfl) (fun w' hw' => ?_) ?_
  · intro x161 h161
    intro x166 h166
    have e161 : x161 = .bool false := h161
    clear h161
    subst e161
    have e166 : x166 = .bool true := h166
    clear h166
    subst e166
    refine ask_do (by kernel_rfl) fun K hK => ?_
    go_simp
    exact hK _ _ rfl rfl (World.grownBy.refl _ none)
  -- op 19 (slot 168): pick
  refine MonoR.step (Pv.eq (.bool false)) [(12, 161), (18, 167)] (by kernel_rfl) (fun w' hw' => ?_) ?_
  · intro x161 h161
    intro x167 h167
    have e161 : x161 = .bool false := h161
    clear h161
    subst e161
    have e167 : x167 = .bool false := h167
    clear h167
    subst e167
    refine ask_do rfl fun K hK => ?_
    go_simp
    exact hK _ _ rfl rfl (World.grownBy.refl _ none)
  -- op 20 (slot 169): move
  refine MonoR.step (Pv.eq (.bool false)) [(19, 168)] (by kernel_rfl) (fun w' hw' => ?_) ?_
  · intro x168 h168
    have e168 : x168 = .bool false := h168
    clear h168
    subst e168
    refine ask_do rfl fun K hK => ?_
    go_simp
    exact hK _ _ rfl rfl (World.grownBy.refl _ none)
  -- op 21 (slot 170): load [(20, 'false')]
  refine MonoR.step (Pv.eq (ps.v)) [(20, 169)] (by kernel_rfl) (fun w' hw' => ?_) ?_
  · intro x169 h169
    have e169 : x169 = .bool false := h169
    clear h169
    subst e169
    refine ask_do (by kernel_rfl) fun K hK => ?_
    have qq := HLE.out w' hw'
    have q0 := qq.1
    have q1 := qq.2
    clear qq
    go_simp
    exact hK _ _ rfl rfl (World.grownBy.refl _ none)
  -- op 22 (slot 171): fieldAddr [(20, 'false')]
  refine MonoR.step (Pv.eq (.pointer (some ⟨gd, 0, none⟩))) [(20, 169)] (by kernel_rfl) (fun w' hw' => ?_) ?_
  · intro x169 h169
    have e169 : x169 = .bool false := h169
    clear h169
    subst e169
    refine ask_do (by kernel_rfl) fun K hK => ?_
    go_simp
    exact hK _ _ rfl rfl (World.grownBy.refl _ none)
  -- op 23 (slot 172): load [(20, 'false')]
  refine MonoR.step (Pv.eq (.slice Am nm cm)) [(20, 169), (22, 171)] (by kernel_rfl) (fun w' hw' => ?_) ?_
  · intro x169 h169
    intro x171 h171
    have e169 : x169 = .bool false := h169
    clear h169
    subst e169
    have e171 : x171 = .pointer (some ⟨gd, 0, none⟩) := h171
    clear h171
    subst e171
    refine ask_do (by kernel_rfl) fun K hK => ?_
    have qq := HLE.out w' hw'
    have q0 := qq.1
    have q1 := qq.2
    clear qq
    go_simp
    exact hK _ _ rfl rfl (World.grownBy.refl _ none)
  -- op 24 (slot 173): move [(20, 'false')]
  refine MonoR.step (Pv.eq (.slice (some ⟨gt, 0, none⟩) 2 2)) [(20, 169)] (by kernel_rfl) (fun w' hw' => ?_) ?_
  · intro x169 h169
    have e169 : x169 = .bool false := h169
    clear h169
    subst e169
    refine ask_do (by kernel_rfl) fun K hK => ?_
    go_simp
    exact hK _ _ rfl rfl (World.grownBy.refl _ none)
  -- op 25 (slot 174): call [(20, 'false')]
  refine MonoR.step (Pv.eq (.bool false)) [(20, 169), (21, 170), (23, 172), (24, 173)] (by kernel_rfl) (fun w' hw' => ?_) ?_
  · intro x169 h169
    intro x170 h170
    intro x172 h172
    intro x173 h173
    have e169 : x169 = .bool false := h169
    clear h169
    subst e169
    have e170 : x170 = ps.v := h170
    clear h170
    subst e170
    have e172 : x172 = .slice Am nm cm := h172
    clear h172
    subst e172
    have e173 : x173 = .slice (some ⟨gt, 0, none⟩) 2 2 := h173
    clear h173
    subst e173
    refine ask_do (by kernel_rfl) fun K hK => ?_
    go_simp
    have hh := dmeets_any ps _ _ MN 1 2 ptL TT TT w' ps_ok (HMMc.out.kept hw') ⟨by decide, by decide⟩ ⟨by decide, by decide⟩ (HPT.out.kept hw') mn_b1 mn_b2 (by decide)
    rw [meet_2] at hh
    refine hh.mono ?_
    rintro e w3 ⟨rfl, hg⟩
    exact hK _ _ rfl rfl hg
  -- op 26 (slot 175): pick
  refine MonoR.step (Pv.eq (.bool false)) [(20, 169), (25, 174)] (by kernel_rfl) (fun w' hw' => ?_) ?_
  · intro x169 h169
    intro x174 h174
    have e169 : x169 = .bool false := h169
    clear h169
    subst e169
    have e174 : x174 = .bool false := h174
    clear h174
    subst e174
    refine ask_do rfl fun K hK => ?_
    go_simp
    exact hK _ _ rfl rfl (World.grownBy.refl _ none)
  
  intro wd hwd
  intro y0 k0 y1 k1 y2 k2 y3 k3 y4 k4 y5 k5 y6 k6 y7 k7 y8 k8 y9 k9 y10 k10 y11 k11 y12 k12 y13 k13 y14 k14 y15 k15 y16 k16 y17 k17 y18 k18 y19 k19 y20 k20 y21 k21 y22 k22 y23 k23 y24 k24 y25 k25 y26 k26
  have e26 : y26 = .bool false := k26
  subst e26
  have HGD : Hid (wa.grownBy wd none) := Lib.hid (HGc.out.trans hwd)
  clear k0 k1 k2 k3 k4 k5 k6 k7 k8 k9 k10 k11 k12 k13 k14 k15 k16 k17 k18 k19 k20 k21 k22 k23 k24 k25 k26 hwd HLE HRWc HCLc HMMc HGc HPT HRR HCC
  simp only [Act.put, List.setIfInBounds_toArray, List.set_cons_zero, List.set_cons_succ]
  refine wpList_nil ?_
  have hp13 : ∀ o, wd.cell? ⟨gp, o, none⟩ = (#[.int .u64 23, .int .u64 11, .int .u64 4, .int .u64 9, .int .i64 4, .int .i64 4, .int .i64 1, .int .i64 1, .int .i64 1, .int .i64 1, .int .i64 1, .int .i64 1] : Array Value)[o]? := (HLD.out wd HGD.out).1
  go_upto_region 17 with (fail)
  obtain ⟨we, hwe⟩ : ∃ y, y = wd.alloc (Obj.cells (#[.int .u64 23, .int .u64 11, .int .u64 4, .int .u64 9, .int .i64 4, .int .i64 3, .int .i64 1, .int .i64 1, .int .i64 1, .int .i64 1, .int .i64 1, .int .i64 1]) 24) := ⟨_, rfl⟩
  obtain ⟨gb, hgb⟩ : ∃ y, y = wd.heap.size := ⟨_, rfl⟩
  have HBE : Hid (Bk we gb 24 (#[.int .u64 23, .int .u64 11, .int .u64 4, .int .u64 9, .int .i64 4, .int .i64 3, .int .i64 1, .int .i64 1, .int .i64 1, .int .i64 1, .int .i64 1, .int .i64 1])) := Lib.hid (by rw [hwe, hgb]; exact Bk.new _ _ _)
  have HGE : Hid (wa.grownBy we none) := Lib.hid (by rw [hwe]; exact HGD.out.trans (World.grownBy_alloc _ _ none))
  rw [← hwe, ← hgb]
  clear hwe hgb HGD hp13
  have hp17 : ∀ o, we.cell? ⟨gp, o, none⟩ = (#[.int .u64 23, .int .u64 11, .int .u64 4, .int .u64 9, .int .i64 4, .int .i64 4, .int .i64 1, .int .i64 1, .int .i64 1, .int .i64 1, .int .i64 1, .int .i64 1] : Array Value)[o]? := (HLD.out we HGE.out).1
  go_upto_region 19 with (fail)
  obtain ⟨wf, hwf⟩ : ∃ y, y = we.alloc (Obj.cells (#[.int .u64 23, .int .u64 11, .int .u64 4, .int .u64 9, .int .i64 4, .int .i64 4, .int .i64 1, .int .i64 3, .int .i64 1, .int .i64 1, .int .i64 1, .int .i64 1]) 24) := ⟨_, rfl⟩
  obtain ⟨go, hgo⟩ : ∃ y, y = we.heap.size := ⟨_, rfl⟩
  have HBF : Hid (Bk wf go 24 (#[.int .u64 23, .int .u64 11, .int .u64 4, .int .u64 9, .int .i64 4, .int .i64 4, .int .i64 1, .int .i64 3, .int .i64 1, .int .i64 1, .int .i64 1, .int .i64 1])) := Lib.hid (by rw [hwf, hgo]; exact Bk.new _ _ _)
  have HGef : Hid (we.grownBy wf none) := Lib.hid (by rw [hwf]; exact World.grownBy_alloc _ _ none)
  rw [← hwf, ← hgo]
  clear hwf hgo hp17
  have HTf : Hid (TabsAt wf) := Lib.hid (HTa.out.1.kept (HGE.out.trans HGef.out))
  have HWf : Hid (w.grownBy wf none) := Lib.hid (HTa.out.2.trans (HGE.out.trans HGef.out))
  have HRf := Lib.hid (HRW.out.kept (HGE.out.trans HGef.out))
  have HATf : Hid (∀ W, wf.grownBy W none → W.cell? ⟨b, 2, none⟩ = some (.int .i64 12)) := Lib.hid (fun W hW => HATa.out W ((HGE.out.trans HGef.out).trans hW))
  obtain ⟨g0, o0, cR0, v0, e0, _, _, hc0, hs0⟩ := HRf.out.atS (k := 0) (by decide)
  injection e0 with e0 e02 e03
  clear e02 e03
  injection e0 with e0
  injection e0 with e0 e1 _
  subst e0 e1
  obtain ⟨A0, c0, e0, hc02, _⟩ := hs0.form
  have HC0 : Hid (2 ≤ c0) := Lib.hid hc02
  clear hc02
  have e0 : v0 = .slice A0 2 c0 := e0
  subst e0
  have HR0 : Hid (Sl encP TT wf (.slice A0 2 c0) [(7, 8), (10, 0)]) := Lib.hid hs0
  have HLX : Hid (∀ W, wf.grownBy W none → (∀ o, W.cell? ⟨gp, o, none⟩ = (#[.int .u64 23, .int .u64 11, .int .u64 4, .int .u64 9, .int .i64 4, .int .i64 4, .int .i64 1, .int .i64 1, .int .i64 1, .int .i64 1, .int .i64 1, .int .i64 1] : Array Value)[o]?) ∧ (∀ o, W.cell? ⟨gb, o, none⟩ = (#[.int .u64 23, .int .u64 11, .int .u64 4, .int .u64 9, .int .i64 4, .int .i64 3, .int .i64 1, .int .i64 1, .int .i64 1, .int .i64 1, .int .i64 1, .int .i64 1] : Array Value)[o]?) ∧ (∀ o, W.cell? ⟨go, o, none⟩ = (#[.int .u64 23, .int .u64 11, .int .u64 4, .int .u64 9, .int .i64 4, .int .i64 4, .int .i64 1, .int .i64 3, .int .i64 1, .int .i64 1, .int .i64 1, .int .i64 1] : Array Value)[o]?) ∧ W.cell? ⟨gr, 0, none⟩ = some (.slice A0 2 c0)) := Lib.hid (fun W hW => ⟨(HLD.out W ((HGE.out.trans HGef.out).trans hW)).1, (HBE.out.grown (HGef.out.trans hW) (by simp)).cell, (HBF.out.grown hW (by simp)).cell, cellK hc0 hW (by simp)⟩)
  clear hc0 hs0 HBE HBF HLD HRf HGE HGef HATa HRW HCL HMM HB10 HTa
  go_upto_region 19 with (fail)
  refine wp_region_seqm 11 (by kernel_rfl) ?_
  -- op 0 (slot 181): load
  refine MonoR.step (Pv.eq (ps.v)) [] (by kernel_rfl) (fun w' hw' => ?_) ?_
  · refine ask_do rfl fun K hK => ?_
    have qq := HLX.out w' (hw')
    have q0 := qq.1
    have q1 := qq.2.1
    clear qq
    go_simp
    exact hK _ _ rfl rfl (World.grownBy.refl _ none)
  -- op 1 (slot 182): buildSlice
  refine MonoR.step (Pv.sl (encU) TT [5]) [] (by kernel_rfl) (fun w' hw' => ?_) ?_
  · refine ask_do rfl fun K hK => ?_
    go_simp
    exact hK _ _ rfl (Sl.build [[.int .u64 5]] rfl ⟨⟨rfl, by decide⟩, trivial⟩ rfl (by decide)) (World.grownBy_alloc _ _ none)
  -- op 2 (slot 183): move
  refine MonoR.step (Pv.eq (.pointer (some ⟨b, 0, none⟩))) [] (by kernel_rfl) (fun w' hw' => ?_) ?_
  · refine ask_do rfl fun K hK => ?_
    go_simp
    exact hK _ _ rfl rfl (World.grownBy.refl _ none)
  -- op 3 (slot 184): call
  refine MonoR.step (Pv.eq (noModel)) [(0, 181), (1, 182), (2, 183)] (by kernel_rfl) (fun w' hw' => ?_) ?_
  · intro x181 h181
    intro x182 h182
    have h182 : Sl (encU) TT w' x182 [5] := h182
    obtain ⟨A182, c182, e182, k182, l182⟩ := h182.form
    have e182 : x182 = .slice A182 [5].length c182 := e182
    subst e182
    intro x183 h183
    have e181 : x181 = ps.v := h181
    clear h181
    subst e181
    have e183 : x183 = .pointer (some ⟨b, 0, none⟩) := h183
    clear h183
    subst e183
    refine ask_do rfl fun K hK => ?_
    go_simp
    refine (dmodel_no ps _ [5] TT _ w' ps_ok (HTf.out.kept (hw')) h182 (fun h => by have h2 := h.2; rw [sec_s] at h2; simp at h2)).mono ?_
    rintro e w3 ⟨rfl, hg⟩
    exact hK _ _ rfl rfl hg
  -- op 4 (slot 180): move
  refine MonoR.step (Pv.eq (noModel)) [(3, 184)] (by kernel_rfl) (fun w' hw' => ?_) ?_
  · intro x184 h184
    have e184 : x184 = noModel := h184
    clear h184
    subst e184
    refine ask_do rfl fun K hK => ?_
    go_simp
    exact hK _ _ rfl rfl (World.grownBy.refl _ none)
  -- op 5 (slot 185): extract
  refine MonoR.step (Pv.eq (.slice none 0 0)) [(4, 180)] (by kernel_rfl) (fun w' hw' => ?_) ?_
  · intro x180 h180
    have e180 : x180 = noModel := h180
    clear h180
    subst e180
    refine ask_do rfl fun K hK => ?_
    go_simp
    exact hK _ _ rfl rfl (World.grownBy.refl _ none)
  -- op 6 (slot 186): extract
  refine MonoR.step (Pv.eq (.slice none 0 0)) [(4, 180)] (by kernel_rfl) (fun w' hw' => ?_) ?_
  · intro x180 h180
    have e180 : x180 = noModel := h180
    clear h180
    subst e180
    refine ask_do rfl fun K hK => ?_
    go_simp
    exact hK _ _ rfl rfl (World.grownBy.refl _ none)
  -- op 7 (slot 187): extract
  refine MonoR.step (Pv.eq (.int .i64 1)) [(4, 180)] (by kernel_rfl) (fun w' hw' => ?_) ?_
  · intro x180 h180
    have e180 : x180 = noModel := h180
    clear h180
    subst e180
    refine ask_do rfl fun K hK => ?_
    go_simp
    exact hK _ _ rfl rfl (World.grownBy.refl _ none)
  -- op 8 (slot 10): assign
  refine MonoR.step (Pv.eq (.slice none 0 0)) [(5, 185)] (by kernel_rfl) (fun w' hw' => ?_) ?_
  · intro x185 h185
    have e185 : x185 = .slice none 0 0 := h185
    clear h185
    subst e185
    refine ask_do rfl fun K hK => ?_
    go_simp
    exact hK _ _ rfl rfl (World.grownBy.refl _ none)
  -- op 9 (slot 11): assign
  refine MonoR.step (Pv.eq (.slice none 0 0)) [(6, 186)] (by kernel_rfl) (fun w' hw' => ?_) ?_
  · intro x186 h186
    have e186 : x186 = .slice none 0 0 := h186
    clear h186
    subst e186
    refine ask_do rfl fun K hK => ?_
    go_simp
    exact hK _ _ rfl rfl (World.grownBy.refl _ none)
  -- op 10 (slot 12): assign
  refine MonoR.step (Pv.eq (.int .i64 1)) [(7, 187)] (by kernel_rfl) (fun w' hw' => ?_) ?_
  · intro x187 h187
    have e187 : x187 = .int .i64 1 := h187
    clear h187
    subst e187
    refine ask_do rfl fun K hK => ?_
    go_simp
    exact hK _ _ rfl rfl (World.grownBy.refl _ none)
  
  intro wg hwd
  intro y0 k0 y1 k1 y2 k2 y3 k3 y4 k4 y5 k5 y6 k6 y7 k7 y8 k8 y9 k9 y10 k10
  have e10 : y10 = .int .i64 1 := k10
  subst e10
  have HGwg : Hid (wf.grownBy wg none) := Lib.hid (hwd)
  clear k0 k1 k2 k3 k4 k5 k6 k7 k8 k9 k10 hwd
  simp only [Act.put, List.setIfInBounds_toArray, List.set_cons_zero, List.set_cons_succ]
  refine wpList_nil ?_
  go_upto_region 20 with (fail)
  refine wp_region_seqm 11 (by kernel_rfl) ?_
  -- op 0 (slot 189): load
  refine MonoR.step (Pv.eq (pbad.v)) [] (by kernel_rfl) (fun w' hw' => ?_) ?_
  · refine ask_do rfl fun K hK => ?_
    have qq := HLX.out w' (HGwg.out.trans hw')
    have q0 := qq.1
    have q1 := qq.2.1
    clear qq
    go_simp
    exact hK _ _ rfl rfl (World.grownBy.refl _ none)
  -- op 1 (slot 190): buildSlice
  refine MonoR.step (Pv.sl (encU) TT [5, 7]) [] (by kernel_rfl) (fun w' hw' => ?_) ?_
  · refine ask_do rfl fun K hK => ?_
    go_simp
    exact hK _ _ rfl (Sl.build [[.int .u64 5], [.int .u64 7]] rfl ⟨⟨rfl, by decide⟩, ⟨rfl, by decide⟩, trivial⟩ rfl (by decide)) (World.grownBy_alloc _ _ none)
  -- op 2 (slot 191): move
  refine MonoR.step (Pv.eq (.pointer (some ⟨b, 0, none⟩))) [] (by kernel_rfl) (fun w' hw' => ?_) ?_
  · refine ask_do rfl fun K hK => ?_
    go_simp
    exact hK _ _ rfl rfl (World.grownBy.refl _ none)
  -- op 3 (slot 192): call
  refine MonoR.step (Pv.eq (noModel)) [(0, 189), (1, 190), (2, 191)] (by kernel_rfl) (fun w' hw' => ?_) ?_
  · intro x189 h189
    intro x190 h190
    have h190 : Sl (encU) TT w' x190 [5, 7] := h190
    obtain ⟨A190, c190, e190, k190, l190⟩ := h190.form
    have e190 : x190 = .slice A190 [5, 7].length c190 := e190
    subst e190
    intro x191 h191
    have e189 : x189 = pbad.v := h189
    clear h189
    subst e189
    have e191 : x191 = .pointer (some ⟨b, 0, none⟩) := h191
    clear h191
    subst e191
    refine ask_do rfl fun K hK => ?_
    go_simp
    refine (dmodel_no pbad _ [5, 7] TT _ w' pbad_ok (HTf.out.kept (HGwg.out.trans hw')) h190 (fun h => may_bad h.1)).mono ?_
    rintro e w3 ⟨rfl, hg⟩
    exact hK _ _ rfl rfl hg
  -- op 4 (slot 188): move
  refine MonoR.step (Pv.eq (noModel)) [(3, 192)] (by kernel_rfl) (fun w' hw' => ?_) ?_
  · intro x192 h192
    have e192 : x192 = noModel := h192
    clear h192
    subst e192
    refine ask_do rfl fun K hK => ?_
    go_simp
    exact hK _ _ rfl rfl (World.grownBy.refl _ none)
  -- op 5 (slot 193): extract
  refine MonoR.step (Pv.eq (.slice none 0 0)) [(4, 188)] (by kernel_rfl) (fun w' hw' => ?_) ?_
  · intro x188 h188
    have e188 : x188 = noModel := h188
    clear h188
    subst e188
    refine ask_do rfl fun K hK => ?_
    go_simp
    exact hK _ _ rfl rfl (World.grownBy.refl _ none)
  -- op 6 (slot 194): extract
  refine MonoR.step (Pv.eq (.slice none 0 0)) [(4, 188)] (by kernel_rfl) (fun w' hw' => ?_) ?_
  · intro x188 h188
    have e188 : x188 = noModel := h188
    clear h188
    subst e188
    refine ask_do rfl fun K hK => ?_
    go_simp
    exact hK _ _ rfl rfl (World.grownBy.refl _ none)
  -- op 7 (slot 195): extract
  refine MonoR.step (Pv.eq (.int .i64 1)) [(4, 188)] (by kernel_rfl) (fun w' hw' => ?_) ?_
  · intro x188 h188
    have e188 : x188 = noModel := h188
    clear h188
    subst e188
    refine ask_do rfl fun K hK => ?_
    go_simp
    exact hK _ _ rfl rfl (World.grownBy.refl _ none)
  -- op 8 (slot 13): assign
  refine MonoR.step (Pv.eq (.slice none 0 0)) [(5, 193)] (by kernel_rfl) (fun w' hw' => ?_) ?_
  · intro x193 h193
    have e193 : x193 = .slice none 0 0 := h193
    clear h193
    subst e193
    refine ask_do rfl fun K hK => ?_
    go_simp
    exact hK _ _ rfl rfl (World.grownBy.refl _ none)
  -- op 9 (slot 14): assign
  refine MonoR.step (Pv.eq (.slice none 0 0)) [(6, 194)] (by kernel_rfl) (fun w' hw' => ?_) ?_
  · intro x194 h194
    have e194 : x194 = .slice none 0 0 := h194
    clear h194
    subst e194
    refine ask_do rfl fun K hK => ?_
    go_simp
    exact hK _ _ rfl rfl (World.grownBy.refl _ none)
  -- op 10 (slot 15): assign
  refine MonoR.step (Pv.eq (.int .i64 1)) [(7, 195)] (by kernel_rfl) (fun w' hw' => ?_) ?_
  · intro x195 h195
    have e195 : x195 = .int .i64 1 := h195
    clear h195
    subst e195
    refine ask_do rfl fun K hK => ?_
    go_simp
    exact hK _ _ rfl rfl (World.grownBy.refl _ none)
  
  intro wh hwd
  intro y0 k0 y1 k1 y2 k2 y3 k3 y4 k4 y5 k5 y6 k6 y7 k7 y8 k8 y9 k9 y10 k10
  have e10 : y10 = .int .i64 1 := k10
  subst e10
  have HGwh : Hid (wf.grownBy wh none) := Lib.hid (HGwg.out.trans hwd)
  clear k0 k1 k2 k3 k4 k5 k6 k7 k8 k9 k10 hwd
  simp only [Act.put, List.setIfInBounds_toArray, List.set_cons_zero, List.set_cons_succ]
  refine wpList_nil ?_
  go_upto_region 21 with (fail)
  have HMN : Hid (∀ W, wh.drew.grownBy W none → Calls Tryz.prog 7 #[ps.v, .slice A0 2 c0, .int .i64 0, .pointer (some ⟨b, 0, none⟩)] W fun e w' => e = .returned noMake ∧ W.grownBy w' none) := Lib.hid (fun W hg => dmake_no ps _ [(7, 8), (10, 0)] 0 TT _ W ps_ok (HTf.out.kept ((HGwh.out.trans (grown_drewN' wh 1)).trans hg)) (HR0.out.kept ((HGwh.out.trans (grown_drewN' wh 1)).trans hg)) (fun h => by have := h.2.2.1; omega))
  have HLF : Hid (∀ vs W, (boxLt (noOk wh.drew)).C vs W → (∀ o, W.cell? ⟨gp, o, none⟩ = (#[.int .u64 23, .int .u64 11, .int .u64 4, .int .u64 9, .int .i64 4, .int .i64 4, .int .i64 1, .int .i64 1, .int .i64 1, .int .i64 1, .int .i64 1, .int .i64 1] : Array Value)[o]?) ∧ (∀ o, W.cell? ⟨gb, o, none⟩ = (#[.int .u64 23, .int .u64 11, .int .u64 4, .int .u64 9, .int .i64 4, .int .i64 3, .int .i64 1, .int .i64 1, .int .i64 1, .int .i64 1, .int .i64 1, .int .i64 1] : Array Value)[o]?) ∧ W.cell? ⟨gr, 0, none⟩ = some (.slice A0 2 c0)) := Lib.hid (fun vs W hC => by
    have hC : BoxC _ _ _ _ _ _ vs W := hC
    have h := HLX.out W ((HGwh.out.trans (grown_drewN' wh 1)).trans hC.g)
    exact ⟨h.1, h.2.1, h.2.2.2⟩)
  refine FR.wp_region_late (boxLt (noOk wh.drew)) [5, 9, 10] 12 (by kernel_rfl) (by kernel_rfl) (by kernel_rfl) (BoxC.start trivial) ?_
  -- op 0 (slot 197): load
  refine FR.LateR.mono (FR.Qv.eq (ps.v)) [] (by kernel_rfl) (by rfl) (fun vs w' hC => ?_) ?_
  · refine FR.askl_do rfl fun K hK => ?_
    have qq := HLF.out vs w' hC
    have q0 := qq.1
    have q1 := qq.2.1
    have q2 := qq.2.2
    clear qq
    go_simp
    exact hK _ _ rfl ⟨rfl, World.grownBy.refl _ none⟩
  -- op 1 (slot 198): move
  refine FR.LateR.mono (FR.Qv.eq (.slice (some ⟨gr, 0, none⟩) 2 2)) [] (by kernel_rfl) (by rfl) (fun vs w' hC => ?_) ?_
  · refine FR.askl_do rfl fun K hK => ?_
    go_simp
    exact hK _ _ rfl ⟨rfl, World.grownBy.refl _ none⟩
  -- op 2 (slot 199): indexAddr
  refine FR.LateR.mono (FR.Qv.eq (.pointer (some ⟨gr, 0, none⟩))) [(1, 198)] (by kernel_rfl) (by rfl) (fun vs w' hC => ?_) ?_
  · intro x198 h198
    have e198 : x198 = .slice (some ⟨gr, 0, none⟩) 2 2 := h198
    clear h198
    subst e198
    refine FR.askl_do rfl fun K hK => ?_
    go_simp
    exact hK _ _ rfl ⟨rfl, World.grownBy.refl _ none⟩
  -- op 3 (slot 200): load
  refine FR.LateR.mono (FR.Qv.eq (.slice A0 2 c0)) [(2, 199)] (by kernel_rfl) (by rfl) (fun vs w' hC => ?_) ?_
  · intro x199 h199
    have e199 : x199 = .pointer (some ⟨gr, 0, none⟩) := h199
    clear h199
    subst e199
    refine FR.askl_do rfl fun K hK => ?_
    have qq := HLF.out vs w' hC
    have q0 := qq.1
    have q1 := qq.2.1
    have q2 := qq.2.2
    clear qq
    go_simp
    exact hK _ _ rfl ⟨rfl, World.grownBy.refl _ none⟩
  -- op 4 (slot 201): move
  refine FR.LateR.mono (FR.Qv.eq (.pointer (some ⟨b, 0, none⟩))) [] (by kernel_rfl) (by rfl) (fun vs w' hC => ?_) ?_
  · refine FR.askl_do rfl fun K hK => ?_
    go_simp
    exact hK _ _ rfl ⟨rfl, World.grownBy.refl _ none⟩
  -- op 5 (slot 202): call
  refine FR.LateR.turn 0 [(0, 197), (3, 200), (4, 201)] (by kernel_rfl) [] rfl (by kernel_rfl) (fun vs w' hn hr hC => ?_) ?_
  · intro x197 h197
    intro x200 h200
    intro x201 h201
    have e197 : x197 = ps.v := h197
    clear h197
    subst e197
    have e200 : x200 = .slice A0 2 c0 := h200
    clear h200
    subst e200
    have e201 : x201 = .pointer (some ⟨b, 0, none⟩) := h201
    clear h201
    subst e201
    refine FR.askl_do rfl fun K hK => ?_
    have hC : BoxC _ _ _ _ _ _ vs w' := hC
    go_simp
    refine (HMN.out w' hC.g).mono ?_
    rintro e w3 ⟨rfl, hg⟩
    exact hK _ _ rfl ⟨trivial, BoxC.call (noOk _) hC hn (cs := nil3) ⟨rfl, rfl⟩ hg⟩
  -- op 6 (slot 196): move
  refine FR.LateR.mono (boxX) [(5, 202)] (by kernel_rfl) (by rfl) (fun vs w' hC => ?_) ?_
  · intro x202 h202
    refine FR.askl_do rfl fun K hK => ?_
    go_simp
    exact hK _ _ rfl ⟨h202, World.grownBy.refl _ none⟩
  -- op 7 (slot 203): extract
  refine FR.LateR.mono (boxE (fun v _ => v = .agg nil3)) [(6, 196)] (by kernel_rfl) (by rfl) (fun vs w' hC => ?_) ?_
  · intro x196 h196
    have h196 : (0, x196) ∈ vs := h196
    refine FR.askl_do rfl fun K hK => ?_
    have hC : BoxC _ _ _ _ _ _ vs w' := hC
    obtain ⟨cs, ht⟩ := hC.told _ h196
    obtain ⟨e1, _⟩ := ht
    subst e1
    go_simp
    exact hK _ _ rfl ⟨⟨_, h196, rfl⟩, World.grownBy.refl _ none⟩
  -- op 8 (slot 204): extract
  refine FR.LateR.mono (FR.Qv.eq (.int .i64 1)) [(6, 196)] (by kernel_rfl) (by rfl) (fun vs w' hC => ?_) ?_
  · intro x196 h196
    have h196 : (0, x196) ∈ vs := h196
    refine FR.askl_do rfl fun K hK => ?_
    have hC : BoxC _ _ _ _ _ _ vs w' := hC
    obtain ⟨cs, ht⟩ := hC.told _ h196
    obtain ⟨e1, _⟩ := ht
    subst e1
    go_simp
    exact hK _ _ rfl ⟨rfl, World.grownBy.refl _ none⟩
  -- op 9 (slot 16): alloc
  refine FR.LateR.turn 1 [] (by kernel_rfl) [] rfl (by kernel_rfl) (fun vs w' hn hr hC => ?_) ?_
  · refine FR.askl_do rfl fun K hK => ?_
    have hC : BoxC _ _ _ _ _ _ vs w' := hC
    go_simp
    exact hK _ _ rfl ⟨trivial, BoxC.alloc (noOk _) hC hn⟩
  -- op 10 (slot None): store
  refine FR.LateR.turn 2 [(9, 16), (7, 203)] (by kernel_rfl) [0, 1] rfl (by kernel_rfl) (fun vs w' hn hr hC => ?_) ?_
  · intro x16 h16
    intro x203 h203
    have h203 : ∃ x, (0, x) ∈ vs ∧ x203 = .agg nil3 := h203
    refine FR.askl_do rfl fun K hK => ?_
    have hC : BoxC _ _ _ _ _ _ vs w' := hC
    obtain ⟨x, hx, hfx⟩ := h203
    subst hfx
    obtain ⟨cs, ht⟩ := hC.told _ hx
    obtain ⟨g, eg, hl, hz, _⟩ := hC.box _ h16
    subst eg
    have hb := hz hn
    have f0 := hb.cell 0
    have f1 := hb.cell 1
    have f2 := hb.cell 2
    have ff := hb.free
    simp at f0 f1 f2
    have hst := BoxC.stored (noOk _) hC hn (u := undef) hx ht h16 ((((hb.set 0 (.slice none 0 0)).set 1 (.slice none 0 0)).set 2 (.slice none 0 0)).of_eq (by rw [ht.2]; rfl)) (((grownSet w' g 0 _).trans (grownSet _ g 1 _)).trans (grownSet _ g 2 _))
    clear hx ht hl hz hb
    go_simp
    exact hK _ _ rfl ⟨trivial, hst⟩
  -- op 11 (slot 17): assign
  refine FR.LateR.mono (FR.Qv.eq (.int .i64 1)) [(8, 204)] (by kernel_rfl) (by rfl) (fun vs w' hC => ?_) ?_
  · intro x204 h204
    have e204 : x204 = .int .i64 1 := h204
    clear h204
    subst e204
    refine FR.askl_do rfl fun K hK => ?_
    go_simp
    exact hK _ _ rfl ⟨rfl, World.grownBy.refl _ none⟩
  intro vs wi hvl hC5
  have hC5 : BoxC _ _ _ _ _ _ vs wi := hC5
  intro y0 k0 y1 k1 y2 k2 y3 k3 y4 k4 y5 k5 y6 k6 y7 k7 y8 k8 y9 k9 y10 k10 y11 k11
  show wpList Tryz.prog _ _ _ _ wi
  have e11 : y11 = .int .i64 1 := k11
  subst e11
  have HGwi : Hid (wf.grownBy wi none) := Lib.hid ((HGwh.out.trans (grown_drewN' wh 1)).trans hC5.g)
  clear k0 k1 k2 k3 k4 k5 k6 k7 k8 k9 k10 k11 hvl hC5 HMN HLF
  simp only [Act.put, List.setIfInBounds_toArray, List.set_cons_zero, List.set_cons_succ]
  go_upto_region 22 with (fail)
  have HMN : Hid (∀ W, wi.drew.grownBy W none → Calls Tryz.prog 7 #[ps.v, .slice A0 2 c0, .int .i64 8, .pointer (some ⟨b, 0, none⟩)] W fun e w' => e = .returned noMake ∧ W.grownBy w' none) := Lib.hid (fun W hg => dmake_no ps _ [(7, 8), (10, 0)] 8 TT _ W ps_ok (HTf.out.kept ((HGwi.out.trans (grown_drewN' wi 1)).trans hg)) (HR0.out.kept ((HGwi.out.trans (grown_drewN' wi 1)).trans hg)) (fun h => by have := h.2.2.2; omega))
  have HLF : Hid (∀ vs W, (boxLt (noOk wi.drew)).C vs W → (∀ o, W.cell? ⟨gp, o, none⟩ = (#[.int .u64 23, .int .u64 11, .int .u64 4, .int .u64 9, .int .i64 4, .int .i64 4, .int .i64 1, .int .i64 1, .int .i64 1, .int .i64 1, .int .i64 1, .int .i64 1] : Array Value)[o]?) ∧ (∀ o, W.cell? ⟨gb, o, none⟩ = (#[.int .u64 23, .int .u64 11, .int .u64 4, .int .u64 9, .int .i64 4, .int .i64 3, .int .i64 1, .int .i64 1, .int .i64 1, .int .i64 1, .int .i64 1, .int .i64 1] : Array Value)[o]?) ∧ W.cell? ⟨gr, 0, none⟩ = some (.slice A0 2 c0)) := Lib.hid (fun vs W hC => by
    have hC : BoxC _ _ _ _ _ _ vs W := hC
    have h := HLX.out W ((HGwi.out.trans (grown_drewN' wi 1)).trans hC.g)
    exact ⟨h.1, h.2.1, h.2.2.2⟩)
  refine FR.wp_region_late (boxLt (noOk wi.drew)) [5, 9, 10] 12 (by kernel_rfl) (by kernel_rfl) (by kernel_rfl) (BoxC.start trivial) ?_
  -- op 0 (slot 206): load
  refine FR.LateR.mono (FR.Qv.eq (ps.v)) [] (by kernel_rfl) (by rfl) (fun vs w' hC => ?_) ?_
  · refine FR.askl_do rfl fun K hK => ?_
    have qq := HLF.out vs w' hC
    have q0 := qq.1
    have q1 := qq.2.1
    have q2 := qq.2.2
    clear qq
    go_simp
    exact hK _ _ rfl ⟨rfl, World.grownBy.refl _ none⟩
  -- op 1 (slot 207): move
  refine FR.LateR.mono (FR.Qv.eq (.slice (some ⟨gr, 0, none⟩) 2 2)) [] (by kernel_rfl) (by rfl) (fun vs w' hC => ?_) ?_
  · refine FR.askl_do rfl fun K hK => ?_
    go_simp
    exact hK _ _ rfl ⟨rfl, World.grownBy.refl _ none⟩
  -- op 2 (slot 208): indexAddr
  refine FR.LateR.mono (FR.Qv.eq (.pointer (some ⟨gr, 0, none⟩))) [(1, 207)] (by kernel_rfl) (by rfl) (fun vs w' hC => ?_) ?_
  · intro x207 h207
    have e207 : x207 = .slice (some ⟨gr, 0, none⟩) 2 2 := h207
    clear h207
    subst e207
    refine FR.askl_do rfl fun K hK => ?_
    go_simp
    exact hK _ _ rfl ⟨rfl, World.grownBy.refl _ none⟩
  -- op 3 (slot 209): load
  refine FR.LateR.mono (FR.Qv.eq (.slice A0 2 c0)) [(2, 208)] (by kernel_rfl) (by rfl) (fun vs w' hC => ?_) ?_
  · intro x208 h208
    have e208 : x208 = .pointer (some ⟨gr, 0, none⟩) := h208
    clear h208
    subst e208
    refine FR.askl_do rfl fun K hK => ?_
    have qq := HLF.out vs w' hC
    have q0 := qq.1
    have q1 := qq.2.1
    have q2 := qq.2.2
    clear qq
    go_simp
    exact hK _ _ rfl ⟨rfl, World.grownBy.refl _ none⟩
  -- op 4 (slot 210): move
  refine FR.LateR.mono (FR.Qv.eq (.pointer (some ⟨b, 0, none⟩))) [] (by kernel_rfl) (by rfl) (fun vs w' hC => ?_) ?_
  · refine FR.askl_do rfl fun K hK => ?_
    go_simp
    exact hK _ _ rfl ⟨rfl, World.grownBy.refl _ none⟩
  -- op 5 (slot 211): call
  refine FR.LateR.turn 0 [(0, 206), (3, 209), (4, 210)] (by kernel_rfl) [] rfl (by kernel_rfl) (fun vs w' hn hr hC => ?_) ?_
  · intro x206 h206
    intro x209 h209
    intro x210 h210
    have e206 : x206 = ps.v := h206
    clear h206
    subst e206
    have e209 : x209 = .slice A0 2 c0 := h209
    clear h209
    subst e209
    have e210 : x210 = .pointer (some ⟨b, 0, none⟩) := h210
    clear h210
    subst e210
    refine FR.askl_do rfl fun K hK => ?_
    have hC : BoxC _ _ _ _ _ _ vs w' := hC
    go_simp
    refine (HMN.out w' hC.g).mono ?_
    rintro e w3 ⟨rfl, hg⟩
    exact hK _ _ rfl ⟨trivial, BoxC.call (noOk _) hC hn (cs := nil3) ⟨rfl, rfl⟩ hg⟩
  -- op 6 (slot 205): move
  refine FR.LateR.mono (boxX) [(5, 211)] (by kernel_rfl) (by rfl) (fun vs w' hC => ?_) ?_
  · intro x211 h211
    refine FR.askl_do rfl fun K hK => ?_
    go_simp
    exact hK _ _ rfl ⟨h211, World.grownBy.refl _ none⟩
  -- op 7 (slot 212): extract
  refine FR.LateR.mono (boxE (fun v _ => v = .agg nil3)) [(6, 205)] (by kernel_rfl) (by rfl) (fun vs w' hC => ?_) ?_
  · intro x205 h205
    have h205 : (0, x205) ∈ vs := h205
    refine FR.askl_do rfl fun K hK => ?_
    have hC : BoxC _ _ _ _ _ _ vs w' := hC
    obtain ⟨cs, ht⟩ := hC.told _ h205
    obtain ⟨e1, _⟩ := ht
    subst e1
    go_simp
    exact hK _ _ rfl ⟨⟨_, h205, rfl⟩, World.grownBy.refl _ none⟩
  -- op 8 (slot 213): extract
  refine FR.LateR.mono (FR.Qv.eq (.int .i64 1)) [(6, 205)] (by kernel_rfl) (by rfl) (fun vs w' hC => ?_) ?_
  · intro x205 h205
    have h205 : (0, x205) ∈ vs := h205
    refine FR.askl_do rfl fun K hK => ?_
    have hC : BoxC _ _ _ _ _ _ vs w' := hC
    obtain ⟨cs, ht⟩ := hC.told _ h205
    obtain ⟨e1, _⟩ := ht
    subst e1
    go_simp
    exact hK _ _ rfl ⟨rfl, World.grownBy.refl _ none⟩
  -- op 9 (slot 18): alloc
  refine FR.LateR.turn 1 [] (by kernel_rfl) [] rfl (by kernel_rfl) (fun vs w' hn hr hC => ?_) ?_
  · refine FR.askl_do rfl fun K hK => ?_
    have hC : BoxC _ _ _ _ _ _ vs w' := hC
    go_simp
    exact hK _ _ rfl ⟨trivial, BoxC.alloc (noOk _) hC hn⟩
  -- op 10 (slot None): store
  refine FR.LateR.turn 2 [(9, 18), (7, 212)] (by kernel_rfl) [0, 1] rfl (by kernel_rfl) (fun vs w' hn hr hC => ?_) ?_
  · intro x18 h18
    intro x212 h212
    have h212 : ∃ x, (0, x) ∈ vs ∧ x212 = .agg nil3 := h212
    refine FR.askl_do rfl fun K hK => ?_
    have hC : BoxC _ _ _ _ _ _ vs w' := hC
    obtain ⟨x, hx, hfx⟩ := h212
    subst hfx
    obtain ⟨cs, ht⟩ := hC.told _ hx
    obtain ⟨g, eg, hl, hz, _⟩ := hC.box _ h18
    subst eg
    have hb := hz hn
    have f0 := hb.cell 0
    have f1 := hb.cell 1
    have f2 := hb.cell 2
    have ff := hb.free
    simp at f0 f1 f2
    have hst := BoxC.stored (noOk _) hC hn (u := undef) hx ht h18 ((((hb.set 0 (.slice none 0 0)).set 1 (.slice none 0 0)).set 2 (.slice none 0 0)).of_eq (by rw [ht.2]; rfl)) (((grownSet w' g 0 _).trans (grownSet _ g 1 _)).trans (grownSet _ g 2 _))
    clear hx ht hl hz hb
    go_simp
    exact hK _ _ rfl ⟨trivial, hst⟩
  -- op 11 (slot 19): assign
  refine FR.LateR.mono (FR.Qv.eq (.int .i64 1)) [(8, 213)] (by kernel_rfl) (by rfl) (fun vs w' hC => ?_) ?_
  · intro x213 h213
    have e213 : x213 = .int .i64 1 := h213
    clear h213
    subst e213
    refine FR.askl_do rfl fun K hK => ?_
    go_simp
    exact hK _ _ rfl ⟨rfl, World.grownBy.refl _ none⟩
  intro vs wj hvl hC5
  have hC5 : BoxC _ _ _ _ _ _ vs wj := hC5
  intro y0 k0 y1 k1 y2 k2 y3 k3 y4 k4 y5 k5 y6 k6 y7 k7 y8 k8 y9 k9 y10 k10 y11 k11
  show wpList Tryz.prog _ _ _ _ wj
  have e11 : y11 = .int .i64 1 := k11
  subst e11
  have HGwj : Hid (wf.grownBy wj none) := Lib.hid ((HGwi.out.trans (grown_drewN' wi 1)).trans hC5.g)
  clear k0 k1 k2 k3 k4 k5 k6 k7 k8 k9 k10 k11 hvl hC5 HMN HLF
  simp only [Act.put, List.setIfInBounds_toArray, List.set_cons_zero, List.set_cons_succ]
  go_upto_region 23 with (fail)
  have HMN : Hid (∀ W, wj.drew.grownBy W none → Calls Tryz.prog 7 #[pbad.v, .slice A0 2 c0, .int .i64 4, .pointer (some ⟨b, 0, none⟩)] W fun e w' => e = .returned noMake ∧ W.grownBy w' none) := Lib.hid (fun W hg => dmake_no pbad _ [(7, 8), (10, 0)] 4 TT _ W pbad_ok (HTf.out.kept ((HGwj.out.trans (grown_drewN' wj 1)).trans hg)) (HR0.out.kept ((HGwj.out.trans (grown_drewN' wj 1)).trans hg)) (fun h => may_bad h.1))
  have HLF : Hid (∀ vs W, (boxLt (noOk wj.drew)).C vs W → (∀ o, W.cell? ⟨gp, o, none⟩ = (#[.int .u64 23, .int .u64 11, .int .u64 4, .int .u64 9, .int .i64 4, .int .i64 4, .int .i64 1, .int .i64 1, .int .i64 1, .int .i64 1, .int .i64 1, .int .i64 1] : Array Value)[o]?) ∧ (∀ o, W.cell? ⟨gb, o, none⟩ = (#[.int .u64 23, .int .u64 11, .int .u64 4, .int .u64 9, .int .i64 4, .int .i64 3, .int .i64 1, .int .i64 1, .int .i64 1, .int .i64 1, .int .i64 1, .int .i64 1] : Array Value)[o]?) ∧ W.cell? ⟨gr, 0, none⟩ = some (.slice A0 2 c0)) := Lib.hid (fun vs W hC => by
    have hC : BoxC _ _ _ _ _ _ vs W := hC
    have h := HLX.out W ((HGwj.out.trans (grown_drewN' wj 1)).trans hC.g)
    exact ⟨h.1, h.2.1, h.2.2.2⟩)
  refine FR.wp_region_late (boxLt (noOk wj.drew)) [5, 9, 10] 12 (by kernel_rfl) (by kernel_rfl) (by kernel_rfl) (BoxC.start trivial) ?_
  -- op 0 (slot 215): load
  refine FR.LateR.mono (FR.Qv.eq (pbad.v)) [] (by kernel_rfl) (by rfl) (fun vs w' hC => ?_) ?_
  · refine FR.askl_do rfl fun K hK => ?_
    have qq := HLF.out vs w' hC
    have q0 := qq.1
    have q1 := qq.2.1
    have q2 := qq.2.2
    clear qq
    go_simp
    exact hK _ _ rfl ⟨rfl, World.grownBy.refl _ none⟩
  -- op 1 (slot 216): move
  refine FR.LateR.mono (FR.Qv.eq (.slice (some ⟨gr, 0, none⟩) 2 2)) [] (by kernel_rfl) (by rfl) (fun vs w' hC => ?_) ?_
  · refine FR.askl_do rfl fun K hK => ?_
    go_simp
    exact hK _ _ rfl ⟨rfl, World.grownBy.refl _ none⟩
  -- op 2 (slot 217): indexAddr
  refine FR.LateR.mono (FR.Qv.eq (.pointer (some ⟨gr, 0, none⟩))) [(1, 216)] (by kernel_rfl) (by rfl) (fun vs w' hC => ?_) ?_
  · intro x216 h216
    have e216 : x216 = .slice (some ⟨gr, 0, none⟩) 2 2 := h216
    clear h216
    subst e216
    refine FR.askl_do rfl fun K hK => ?_
    go_simp
    exact hK _ _ rfl ⟨rfl, World.grownBy.refl _ none⟩
  -- op 3 (slot 218): load
  refine FR.LateR.mono (FR.Qv.eq (.slice A0 2 c0)) [(2, 217)] (by kernel_rfl) (by rfl) (fun vs w' hC => ?_) ?_
  · intro x217 h217
    have e217 : x217 = .pointer (some ⟨gr, 0, none⟩) := h217
    clear h217
    subst e217
    refine FR.askl_do rfl fun K hK => ?_
    have qq := HLF.out vs w' hC
    have q0 := qq.1
    have q1 := qq.2.1
    have q2 := qq.2.2
    clear qq
    go_simp
    exact hK _ _ rfl ⟨rfl, World.grownBy.refl _ none⟩
  -- op 4 (slot 219): move
  refine FR.LateR.mono (FR.Qv.eq (.pointer (some ⟨b, 0, none⟩))) [] (by kernel_rfl) (by rfl) (fun vs w' hC => ?_) ?_
  · refine FR.askl_do rfl fun K hK => ?_
    go_simp
    exact hK _ _ rfl ⟨rfl, World.grownBy.refl _ none⟩
  -- op 5 (slot 220): call
  refine FR.LateR.turn 0 [(0, 215), (3, 218), (4, 219)] (by kernel_rfl) [] rfl (by kernel_rfl) (fun vs w' hn hr hC => ?_) ?_
  · intro x215 h215
    intro x218 h218
    intro x219 h219
    have e215 : x215 = pbad.v := h215
    clear h215
    subst e215
    have e218 : x218 = .slice A0 2 c0 := h218
    clear h218
    subst e218
    have e219 : x219 = .pointer (some ⟨b, 0, none⟩) := h219
    clear h219
    subst e219
    refine FR.askl_do rfl fun K hK => ?_
    have hC : BoxC _ _ _ _ _ _ vs w' := hC
    go_simp
    refine (HMN.out w' hC.g).mono ?_
    rintro e w3 ⟨rfl, hg⟩
    exact hK _ _ rfl ⟨trivial, BoxC.call (noOk _) hC hn (cs := nil3) ⟨rfl, rfl⟩ hg⟩
  -- op 6 (slot 214): move
  refine FR.LateR.mono (boxX) [(5, 220)] (by kernel_rfl) (by rfl) (fun vs w' hC => ?_) ?_
  · intro x220 h220
    refine FR.askl_do rfl fun K hK => ?_
    go_simp
    exact hK _ _ rfl ⟨h220, World.grownBy.refl _ none⟩
  -- op 7 (slot 221): extract
  refine FR.LateR.mono (boxE (fun v _ => v = .agg nil3)) [(6, 214)] (by kernel_rfl) (by rfl) (fun vs w' hC => ?_) ?_
  · intro x214 h214
    have h214 : (0, x214) ∈ vs := h214
    refine FR.askl_do rfl fun K hK => ?_
    have hC : BoxC _ _ _ _ _ _ vs w' := hC
    obtain ⟨cs, ht⟩ := hC.told _ h214
    obtain ⟨e1, _⟩ := ht
    subst e1
    go_simp
    exact hK _ _ rfl ⟨⟨_, h214, rfl⟩, World.grownBy.refl _ none⟩
  -- op 8 (slot 222): extract
  refine FR.LateR.mono (FR.Qv.eq (.int .i64 1)) [(6, 214)] (by kernel_rfl) (by rfl) (fun vs w' hC => ?_) ?_
  · intro x214 h214
    have h214 : (0, x214) ∈ vs := h214
    refine FR.askl_do rfl fun K hK => ?_
    have hC : BoxC _ _ _ _ _ _ vs w' := hC
    obtain ⟨cs, ht⟩ := hC.told _ h214
    obtain ⟨e1, _⟩ := ht
    subst e1
    go_simp
    exact hK _ _ rfl ⟨rfl, World.grownBy.refl _ none⟩
  -- op 9 (slot 20): alloc
  refine FR.LateR.turn 1 [] (by kernel_rfl) [] rfl (by kernel_rfl) (fun vs w' hn hr hC => ?_) ?_
  · refine FR.askl_do rfl fun K hK => ?_
    have hC : BoxC _ _ _ _ _ _ vs w' := hC
    go_simp
    exact hK _ _ rfl ⟨trivial, BoxC.alloc (noOk _) hC hn⟩
  -- op 10 (slot None): store
  refine FR.LateR.turn 2 [(9, 20), (7, 221)] (by kernel_rfl) [0, 1] rfl (by kernel_rfl) (fun vs w' hn hr hC => ?_) ?_
  · intro x20 h20
    intro x221 h221
    have h221 : ∃ x, (0, x) ∈ vs ∧ x221 = .agg nil3 := h221
    refine FR.askl_do rfl fun K hK => ?_
    have hC : BoxC _ _ _ _ _ _ vs w' := hC
    obtain ⟨x, hx, hfx⟩ := h221
    subst hfx
    obtain ⟨cs, ht⟩ := hC.told _ hx
    obtain ⟨g, eg, hl, hz, _⟩ := hC.box _ h20
    subst eg
    have hb := hz hn
    have f0 := hb.cell 0
    have f1 := hb.cell 1
    have f2 := hb.cell 2
    have ff := hb.free
    simp at f0 f1 f2
    have hst := BoxC.stored (noOk _) hC hn (u := undef) hx ht h20 ((((hb.set 0 (.slice none 0 0)).set 1 (.slice none 0 0)).set 2 (.slice none 0 0)).of_eq (by rw [ht.2]; rfl)) (((grownSet w' g 0 _).trans (grownSet _ g 1 _)).trans (grownSet _ g 2 _))
    clear hx ht hl hz hb
    go_simp
    exact hK _ _ rfl ⟨trivial, hst⟩
  -- op 11 (slot 21): assign
  refine FR.LateR.mono (FR.Qv.eq (.int .i64 1)) [(8, 222)] (by kernel_rfl) (by rfl) (fun vs w' hC => ?_) ?_
  · intro x222 h222
    have e222 : x222 = .int .i64 1 := h222
    clear h222
    subst e222
    refine FR.askl_do rfl fun K hK => ?_
    go_simp
    exact hK _ _ rfl ⟨rfl, World.grownBy.refl _ none⟩
  intro vs wk hvl hC5
  have hC5 : BoxC _ _ _ _ _ _ vs wk := hC5
  intro y0 k0 y1 k1 y2 k2 y3 k3 y4 k4 y5 k5 y6 k6 y7 k7 y8 k8 y9 k9 y10 k10 y11 k11
  show wpList Tryz.prog _ _ _ _ wk
  have e11 : y11 = .int .i64 1 := k11
  subst e11
  have HGwk : Hid (wf.grownBy wk none) := Lib.hid ((HGwj.out.trans (grown_drewN' wj 1)).trans hC5.g)
  clear k0 k1 k2 k3 k4 k5 k6 k7 k8 k9 k10 k11 hvl hC5 HMN HLF
  simp only [Act.put, List.setIfInBounds_toArray, List.set_cons_zero, List.set_cons_succ]
  go_upto_region 24 with (fail)
  have HMN : Hid (∀ W, wk.drew.grownBy W none → Calls Tryz.prog 7 #[ps.v, .slice A0 1 c0, .int .i64 4, .pointer (some ⟨b, 0, none⟩)] W fun e w' => e = .returned noMake ∧ W.grownBy w' none) := Lib.hid (fun W hg => dmake_no ps _ [(7, 8)] 4 TT _ W ps_ok (HTf.out.kept ((HGwk.out.trans (grown_drewN' wk 1)).trans hg)) ((HR0.out.kept ((HGwk.out.trans (grown_drewN' wk 1)).trans hg)).take 1 (by decide)) (fun h => by have h2 := h.2.1; rw [sec_s] at h2; simp at h2))
  have HLF : Hid (∀ vs W, (boxLt (noOk wk.drew)).C vs W → (∀ o, W.cell? ⟨gp, o, none⟩ = (#[.int .u64 23, .int .u64 11, .int .u64 4, .int .u64 9, .int .i64 4, .int .i64 4, .int .i64 1, .int .i64 1, .int .i64 1, .int .i64 1, .int .i64 1, .int .i64 1] : Array Value)[o]?) ∧ (∀ o, W.cell? ⟨gb, o, none⟩ = (#[.int .u64 23, .int .u64 11, .int .u64 4, .int .u64 9, .int .i64 4, .int .i64 3, .int .i64 1, .int .i64 1, .int .i64 1, .int .i64 1, .int .i64 1, .int .i64 1] : Array Value)[o]?) ∧ W.cell? ⟨gr, 0, none⟩ = some (.slice A0 2 c0)) := Lib.hid (fun vs W hC => by
    have hC : BoxC _ _ _ _ _ _ vs W := hC
    have h := HLX.out W ((HGwk.out.trans (grown_drewN' wk 1)).trans hC.g)
    exact ⟨h.1, h.2.1, h.2.2.2⟩)
  refine FR.wp_region_late (boxLt (noOk wk.drew)) [6, 10, 11] 13 (by kernel_rfl) (by kernel_rfl) (by kernel_rfl) (BoxC.start trivial) ?_
  -- op 0 (slot 224): load
  refine FR.LateR.mono (FR.Qv.eq (ps.v)) [] (by kernel_rfl) (by rfl) (fun vs w' hC => ?_) ?_
  · refine FR.askl_do rfl fun K hK => ?_
    have qq := HLF.out vs w' hC
    have q0 := qq.1
    have q1 := qq.2.1
    have q2 := qq.2.2
    clear qq
    go_simp
    exact hK _ _ rfl ⟨rfl, World.grownBy.refl _ none⟩
  -- op 1 (slot 225): move
  refine FR.LateR.mono (FR.Qv.eq (.slice (some ⟨gr, 0, none⟩) 2 2)) [] (by kernel_rfl) (by rfl) (fun vs w' hC => ?_) ?_
  · refine FR.askl_do rfl fun K hK => ?_
    go_simp
    exact hK _ _ rfl ⟨rfl, World.grownBy.refl _ none⟩
  -- op 2 (slot 226): indexAddr
  refine FR.LateR.mono (FR.Qv.eq (.pointer (some ⟨gr, 0, none⟩))) [(1, 225)] (by kernel_rfl) (by rfl) (fun vs w' hC => ?_) ?_
  · intro x225 h225
    have e225 : x225 = .slice (some ⟨gr, 0, none⟩) 2 2 := h225
    clear h225
    subst e225
    refine FR.askl_do rfl fun K hK => ?_
    go_simp
    exact hK _ _ rfl ⟨rfl, World.grownBy.refl _ none⟩
  -- op 3 (slot 227): load
  refine FR.LateR.mono (FR.Qv.eq (.slice A0 2 c0)) [(2, 226)] (by kernel_rfl) (by rfl) (fun vs w' hC => ?_) ?_
  · intro x226 h226
    have e226 : x226 = .pointer (some ⟨gr, 0, none⟩) := h226
    clear h226
    subst e226
    refine FR.askl_do rfl fun K hK => ?_
    have qq := HLF.out vs w' hC
    have q0 := qq.1
    have q1 := qq.2.1
    have q2 := qq.2.2
    clear qq
    go_simp
    exact hK _ _ rfl ⟨rfl, World.grownBy.refl _ none⟩
  -- op 4 (slot 228): slice
  refine FR.LateR.mono (FR.Qv.eq (.slice A0 1 c0)) [(3, 227)] (by kernel_rfl) (by rfl) (fun vs w' hC => ?_) ?_
  · intro x227 h227
    have e227 : x227 = .slice A0 2 c0 := h227
    clear h227
    subst e227
    refine FR.askl_do rfl fun K hK => ?_
    have hc0 : (1 : Int) ≤ (c0 : Int) := by have := HC0.out; omega
    go_simp
    exact hK _ _ rfl ⟨rfl, World.grownBy.refl _ none⟩
  -- op 5 (slot 229): move
  refine FR.LateR.mono (FR.Qv.eq (.pointer (some ⟨b, 0, none⟩))) [] (by kernel_rfl) (by rfl) (fun vs w' hC => ?_) ?_
  · refine FR.askl_do rfl fun K hK => ?_
    go_simp
    exact hK _ _ rfl ⟨rfl, World.grownBy.refl _ none⟩
  -- op 6 (slot 230): call
  refine FR.LateR.turn 0 [(0, 224), (4, 228), (5, 229)] (by kernel_rfl) [] rfl (by kernel_rfl) (fun vs w' hn hr hC => ?_) ?_
  · intro x224 h224
    intro x228 h228
    intro x229 h229
    have e224 : x224 = ps.v := h224
    clear h224
    subst e224
    have e228 : x228 = .slice A0 1 c0 := h228
    clear h228
    subst e228
    have e229 : x229 = .pointer (some ⟨b, 0, none⟩) := h229
    clear h229
    subst e229
    refine FR.askl_do rfl fun K hK => ?_
    have hC : BoxC _ _ _ _ _ _ vs w' := hC
    go_simp
    refine (HMN.out w' hC.g).mono ?_
    rintro e w3 ⟨rfl, hg⟩
    exact hK _ _ rfl ⟨trivial, BoxC.call (noOk _) hC hn (cs := nil3) ⟨rfl, rfl⟩ hg⟩
  -- op 7 (slot 223): move
  refine FR.LateR.mono (boxX) [(6, 230)] (by kernel_rfl) (by rfl) (fun vs w' hC => ?_) ?_
  · intro x230 h230
    refine FR.askl_do rfl fun K hK => ?_
    go_simp
    exact hK _ _ rfl ⟨h230, World.grownBy.refl _ none⟩
  -- op 8 (slot 231): extract
  refine FR.LateR.mono (boxE (fun v _ => v = .agg nil3)) [(7, 223)] (by kernel_rfl) (by rfl) (fun vs w' hC => ?_) ?_
  · intro x223 h223
    have h223 : (0, x223) ∈ vs := h223
    refine FR.askl_do rfl fun K hK => ?_
    have hC : BoxC _ _ _ _ _ _ vs w' := hC
    obtain ⟨cs, ht⟩ := hC.told _ h223
    obtain ⟨e1, _⟩ := ht
    subst e1
    go_simp
    exact hK _ _ rfl ⟨⟨_, h223, rfl⟩, World.grownBy.refl _ none⟩
  -- op 9 (slot 232): extract
  refine FR.LateR.mono (FR.Qv.eq (.int .i64 1)) [(7, 223)] (by kernel_rfl) (by rfl) (fun vs w' hC => ?_) ?_
  · intro x223 h223
    have h223 : (0, x223) ∈ vs := h223
    refine FR.askl_do rfl fun K hK => ?_
    have hC : BoxC _ _ _ _ _ _ vs w' := hC
    obtain ⟨cs, ht⟩ := hC.told _ h223
    obtain ⟨e1, _⟩ := ht
    subst e1
    go_simp
    exact hK _ _ rfl ⟨rfl, World.grownBy.refl _ none⟩
  -- op 10 (slot 22): alloc
  refine FR.LateR.turn 1 [] (by kernel_rfl) [] rfl (by kernel_rfl) (fun vs w' hn hr hC => ?_) ?_
  · refine FR.askl_do rfl fun K hK => ?_
    have hC : BoxC _ _ _ _ _ _ vs w' := hC
    go_simp
    exact hK _ _ rfl ⟨trivial, BoxC.alloc (noOk _) hC hn⟩
  -- op 11 (slot None): store
  refine FR.LateR.turn 2 [(10, 22), (8, 231)] (by kernel_rfl) [0, 1] rfl (by kernel_rfl) (fun vs w' hn hr hC => ?_) ?_
  · intro x22 h22
    intro x231 h231
    have h231 : ∃ x, (0, x) ∈ vs ∧ x231 = .agg nil3 := h231
    refine FR.askl_do rfl fun K hK => ?_
    have hC : BoxC _ _ _ _ _ _ vs w' := hC
    obtain ⟨x, hx, hfx⟩ := h231
    subst hfx
    obtain ⟨cs, ht⟩ := hC.told _ hx
    obtain ⟨g, eg, hl, hz, _⟩ := hC.box _ h22
    subst eg
    have hb := hz hn
    have f0 := hb.cell 0
    have f1 := hb.cell 1
    have f2 := hb.cell 2
    have ff := hb.free
    simp at f0 f1 f2
    have hst := BoxC.stored (noOk _) hC hn (u := undef) hx ht h22 ((((hb.set 0 (.slice none 0 0)).set 1 (.slice none 0 0)).set 2 (.slice none 0 0)).of_eq (by rw [ht.2]; rfl)) (((grownSet w' g 0 _).trans (grownSet _ g 1 _)).trans (grownSet _ g 2 _))
    clear hx ht hl hz hb
    go_simp
    exact hK _ _ rfl ⟨trivial, hst⟩
  -- op 12 (slot 23): assign
  refine FR.LateR.mono (FR.Qv.eq (.int .i64 1)) [(9, 232)] (by kernel_rfl) (by rfl) (fun vs w' hC => ?_) ?_
  · intro x232 h232
    have e232 : x232 = .int .i64 1 := h232
    clear h232
    subst e232
    refine FR.askl_do rfl fun K hK => ?_
    go_simp
    exact hK _ _ rfl ⟨rfl, World.grownBy.refl _ none⟩
  intro vs wl hvl hC5
  have hC5 : BoxC _ _ _ _ _ _ vs wl := hC5
  intro y0 k0 y1 k1 y2 k2 y3 k3 y4 k4 y5 k5 y6 k6 y7 k7 y8 k8 y9 k9 y10 k10 y11 k11 y12 k12
  show wpList Tryz.prog _ _ _ _ wl
  have e12 : y12 = .int .i64 1 := k12
  subst e12
  have HGwl : Hid (wf.grownBy wl none) := Lib.hid ((HGwk.out.trans (grown_drewN' wk 1)).trans hC5.g)
  clear k0 k1 k2 k3 k4 k5 k6 k7 k8 k9 k10 k11 k12 hvl hC5 HMN HLF
  simp only [Act.put, List.setIfInBounds_toArray, List.set_cons_zero, List.set_cons_succ]
  have hqwl := (HLX.out wl HGwl.out).2.2.1
  have HOwl : Hid (Calls Tryz.prog 16 #[podd18.v, .slice none 0 0, .int .i64 1] wl fun e w' => (∃ va vb vc, e = .returned (.tuple #[va, vb, vc, .int .i64 1])) ∧ wl.grownBy w' none) := Lib.hid (by
    have h := open_any podd18 (.slice none 0 0) [] 1 TT wl (Sl.nil _ _ _) (by decide) ⟨by decide, by decide⟩
    rw [show ([] : List Int).length = 0 from rfl, on_1] at h
    refine h.mono ?_
    rintro e w' ⟨va, vb, vc, rfl, _, _, _, hg⟩
    exact ⟨⟨va, vb, vc, rfl⟩, hg⟩)
  go_wp2_with fail
  refine HOwl.out.mono ?_
  rintro e wm ⟨⟨vawm, vbwm, vcwm, rfl⟩, hg⟩
  have HGwm : Hid (wf.grownBy wm none) := Lib.hid (HGwl.out.trans hg)
  clear hg hqwl HOwl
  have hqwm := (HLX.out wm HGwm.out).1
  have HOwm : Hid (Calls Tryz.prog 16 #[ps.v, .slice none 0 0, .int .i64 4] wm fun e w' => (∃ va vb vc, e = .returned (.tuple #[va, vb, vc, .int .i64 1])) ∧ wm.grownBy w' none) := Lib.hid (by
    have h := open_any ps (.slice none 0 0) [] 4 TT wm (Sl.nil _ _ _) (by decide) ⟨by decide, by decide⟩
    rw [show ([] : List Int).length = 0 from rfl, on_2] at h
    refine h.mono ?_
    rintro e w' ⟨va, vb, vc, rfl, _, _, _, hg⟩
    exact ⟨⟨va, vb, vc, rfl⟩, hg⟩)
  go_wp2_with fail
  refine HOwm.out.mono ?_
  rintro e wn ⟨⟨vawn, vbwn, vcwn, rfl⟩, hg⟩
  have HGwn : Hid (wf.grownBy wn none) := Lib.hid (HGwm.out.trans hg)
  clear hg hqwm HOwm
  have hqwn := (HLX.out wn HGwn.out).1
  have HOwn : Hid (Calls Tryz.prog 16 #[ps.v, .slice none 0 0, .int .i64 (-1)] wn fun e w' => (∃ va vb vc, e = .returned (.tuple #[va, vb, vc, .int .i64 1])) ∧ wn.grownBy w' none) := Lib.hid (by
    have h := open_any ps (.slice none 0 0) [] (-1) TT wn (Sl.nil _ _ _) (by decide) ⟨by decide, by decide⟩
    rw [show ([] : List Int).length = 0 from rfl, on_3] at h
    refine h.mono ?_
    rintro e w' ⟨va, vb, vc, rfl, _, _, _, hg⟩
    exact ⟨⟨va, vb, vc, rfl⟩, hg⟩)
  go_wp2_with fail
  refine HOwn.out.mono ?_
  rintro e wo ⟨⟨vawo, vbwo, vcwo, rfl⟩, hg⟩
  have HGwo : Hid (wf.grownBy wo none) := Lib.hid (HGwn.out.trans hg)
  clear hg hqwn HOwn
  go_upto_region 28 with (fail)
  refine wp_region_mono 8 (by kernel_rfl) (by kernel_rfl) ?_
  -- op 0 (slot 255): load
  refine MonoR.step (Pv.eq (ps.v)) [] (by kernel_rfl) (fun w' hw' => ?_) ?_
  · refine ask_do rfl fun K hK => ?_
    have qq := HLX.out w' ((HGwo.out.trans (grown_drewN' wo 1)).trans hw')
    have q0 := qq.1
    clear qq
    go_simp
    exact hK _ _ rfl rfl (World.grownBy.refl _ none)
  -- op 1 (slot 256): makeSlice
  refine MonoR.step (Pv.sl (encU) TT (List.replicate 3 0)) [] (by kernel_rfl) (fun w' hw' => ?_) ?_
  · refine ask_do rfl fun K hK => ?_
    have hmk := run_make_row' (P := Tryz.prog) 29 22 (.int .u64 0) 8 Tryz.underlying29 info_u64 rfl .i64 .i64 3 (by decide) (by decide) w'
    have hmk : (Instr.makeSlice 29 (.int .i64 3) (.int .i64 3)).run Tryz.prog w' = .ok (.slice (some ⟨w'.heap.size, 0, none⟩) 3 3) (w'.alloc (.cells (madeCells #[.int .u64 0] 3) 22)) := hmk
    go_simp
    exact hK _ _ rfl (slMade w' 3 (by decide)) (World.grownBy_alloc _ _ none)
  -- op 2 (slot 257): call
  refine MonoR.step (pvE 4) [(0, 255), (1, 256)] (by kernel_rfl) (fun w' hw' => ?_) ?_
  · intro x255 h255
    intro x256 h256
    have h256 : Sl (encU) TT w' x256 (List.replicate 3 0) := h256
    obtain ⟨A256, c256, e256, k256, l256⟩ := h256.form
    have e256 : x256 = .slice A256 (List.replicate 3 0).length c256 := e256
    subst e256
    have e255 : x255 = ps.v := h255
    clear h255
    subst e255
    refine ask_do rfl fun K hK => ?_
    go_simp
    have hh := openPairs_any ps _ (List.replicate 3 0) TT w' h256 (by decide)
    rw [show (List.replicate 3 (0 : Int)).length = 3 from rfl, oe_1] at hh
    refine hh.mono ?_
    rintro e w3 ⟨v3, rfl, _, hg⟩
    exact hK _ _ rfl ⟨v3, rfl⟩ hg
  -- op 3 (slot 254): move
  refine MonoR.step (pvE 4) [(2, 257)] (by kernel_rfl) (fun w' hw' => ?_) ?_
  · intro x257 h257
    have h257 : ∃ a, x257 = Value.tuple #[a, .int .i64 4] := h257
    refine ask_do rfl fun K hK => ?_
    obtain ⟨a, e⟩ := h257
    subst e
    go_simp
    exact hK _ _ rfl ⟨a, rfl⟩ (World.grownBy.refl _ none)
  -- op 4 (slot 258): extract
  refine MonoR.step (Pv.any) [(3, 254)] (by kernel_rfl) (fun w' hw' => ?_) ?_
  · intro x254 h254
    have h254 : ∃ a, x254 = Value.tuple #[a, .int .i64 4] := h254
    refine ask_do rfl fun K hK => ?_
    obtain ⟨a, e⟩ := h254
    subst e
    go_simp
    exact hK _ _ rfl trivial (World.grownBy.refl _ none)
  -- op 5 (slot 259): extract
  refine MonoR.step (Pv.eq (.int .i64 4)) [(3, 254)] (by kernel_rfl) (fun w' hw' => ?_) ?_
  · intro x254 h254
    have h254 : ∃ a, x254 = Value.tuple #[a, .int .i64 4] := h254
    refine ask_do rfl fun K hK => ?_
    obtain ⟨a, e⟩ := h254
    subst e
    go_simp
    exact hK _ _ rfl rfl (World.grownBy.refl _ none)
  -- op 6 (slot 36): assign
  refine MonoR.step (Pv.any) [(4, 258)] (by kernel_rfl) (fun w' hw' => ?_) ?_
  · intro x258 h258
    have h258 : True := h258
    refine ask_do rfl fun K hK => ?_
    go_simp
    exact hK _ _ rfl trivial (World.grownBy.refl _ none)
  -- op 7 (slot 37): assign
  refine MonoR.step (Pv.eq (.int .i64 4)) [(5, 259)] (by kernel_rfl) (fun w' hw' => ?_) ?_
  · intro x259 h259
    have e259 : x259 = .int .i64 4 := h259
    clear h259
    subst e259
    refine ask_do rfl fun K hK => ?_
    go_simp
    exact hK _ _ rfl rfl (World.grownBy.refl _ none)
  
  intro wp hwd
  intro y0 k0 y1 k1 y2 k2 y3 k3 y4 k4 y5 k5 y6 k6 y7 k7
  have e7 : y7 = .int .i64 4 := k7
  subst e7
  have HGwp : Hid (wf.grownBy wp none) := Lib.hid ((HGwo.out.trans (grown_drewN' wo 1)).trans hwd)
  clear k0 k1 k2 k3 k4 k5 k6 k7 hwd
  refine wpList_nil ?_
  simp only [Act.put, List.setIfInBounds_toArray, List.set_cons_zero, List.set_cons_succ]
  go_upto_region 29 with (fail)
  refine wp_region_mono 8 (by kernel_rfl) (by kernel_rfl) ?_
  -- op 0 (slot 261): load
  refine MonoR.step (Pv.eq (ps.v)) [] (by kernel_rfl) (fun w' hw' => ?_) ?_
  · refine ask_do rfl fun K hK => ?_
    have qq := HLX.out w' ((HGwp.out.trans (grown_drewN' wp 1)).trans hw')
    have q0 := qq.1
    clear qq
    go_simp
    exact hK _ _ rfl rfl (World.grownBy.refl _ none)
  -- op 1 (slot 262): makeSlice
  refine MonoR.step (Pv.sl (encU) TT (List.replicate 5 0)) [] (by kernel_rfl) (fun w' hw' => ?_) ?_
  · refine ask_do rfl fun K hK => ?_
    have hmk := run_make_row' (P := Tryz.prog) 29 22 (.int .u64 0) 8 Tryz.underlying29 info_u64 rfl .i64 .i64 5 (by decide) (by decide) w'
    have hmk : (Instr.makeSlice 29 (.int .i64 5) (.int .i64 5)).run Tryz.prog w' = .ok (.slice (some ⟨w'.heap.size, 0, none⟩) 5 5) (w'.alloc (.cells (madeCells #[.int .u64 0] 5) 22)) := hmk
    go_simp
    exact hK _ _ rfl (slMade w' 5 (by decide)) (World.grownBy_alloc _ _ none)
  -- op 2 (slot 263): call
  refine MonoR.step (pvE 4) [(0, 261), (1, 262)] (by kernel_rfl) (fun w' hw' => ?_) ?_
  · intro x261 h261
    intro x262 h262
    have h262 : Sl (encU) TT w' x262 (List.replicate 5 0) := h262
    obtain ⟨A262, c262, e262, k262, l262⟩ := h262.form
    have e262 : x262 = .slice A262 (List.replicate 5 0).length c262 := e262
    subst e262
    have e261 : x261 = ps.v := h261
    clear h261
    subst e261
    refine ask_do rfl fun K hK => ?_
    go_simp
    have hh := openComs_any ps _ (List.replicate 5 0) TT w' h262 (by decide)
    rw [show (List.replicate 5 (0 : Int)).length = 5 from rfl, oc_1] at hh
    refine hh.mono ?_
    rintro e w3 ⟨v3, rfl, _, hg⟩
    exact hK _ _ rfl ⟨v3, rfl⟩ hg
  -- op 3 (slot 260): move
  refine MonoR.step (pvE 4) [(2, 263)] (by kernel_rfl) (fun w' hw' => ?_) ?_
  · intro x263 h263
    have h263 : ∃ a, x263 = Value.tuple #[a, .int .i64 4] := h263
    refine ask_do rfl fun K hK => ?_
    obtain ⟨a, e⟩ := h263
    subst e
    go_simp
    exact hK _ _ rfl ⟨a, rfl⟩ (World.grownBy.refl _ none)
  -- op 4 (slot 264): extract
  refine MonoR.step (Pv.any) [(3, 260)] (by kernel_rfl) (fun w' hw' => ?_) ?_
  · intro x260 h260
    have h260 : ∃ a, x260 = Value.tuple #[a, .int .i64 4] := h260
    refine ask_do rfl fun K hK => ?_
    obtain ⟨a, e⟩ := h260
    subst e
    go_simp
    exact hK _ _ rfl trivial (World.grownBy.refl _ none)
  -- op 5 (slot 265): extract
  refine MonoR.step (Pv.eq (.int .i64 4)) [(3, 260)] (by kernel_rfl) (fun w' hw' => ?_) ?_
  · intro x260 h260
    have h260 : ∃ a, x260 = Value.tuple #[a, .int .i64 4] := h260
    refine ask_do rfl fun K hK => ?_
    obtain ⟨a, e⟩ := h260
    subst e
    go_simp
    exact hK _ _ rfl rfl (World.grownBy.refl _ none)
  -- op 6 (slot 38): assign
  refine MonoR.step (Pv.any) [(4, 264)] (by kernel_rfl) (fun w' hw' => ?_) ?_
  · intro x264 h264
    have h264 : True := h264
    refine ask_do rfl fun K hK => ?_
    go_simp
    exact hK _ _ rfl trivial (World.grownBy.refl _ none)
  -- op 7 (slot 39): assign
  refine MonoR.step (Pv.eq (.int .i64 4)) [(5, 265)] (by kernel_rfl) (fun w' hw' => ?_) ?_
  · intro x265 h265
    have e265 : x265 = .int .i64 4 := h265
    clear h265
    subst e265
    refine ask_do rfl fun K hK => ?_
    go_simp
    exact hK _ _ rfl rfl (World.grownBy.refl _ none)
  
  intro wq hwd
  intro y0 k0 y1 k1 y2 k2 y3 k3 y4 k4 y5 k5 y6 k6 y7 k7
  have e7 : y7 = .int .i64 4 := k7
  subst e7
  have HGwq : Hid (wf.grownBy wq none) := Lib.hid ((HGwp.out.trans (grown_drewN' wp 1)).trans hwd)
  clear k0 k1 k2 k3 k4 k5 k6 k7 hwd
  refine wpList_nil ?_
  simp only [Act.put, List.setIfInBounds_toArray, List.set_cons_zero, List.set_cons_succ]
  have hqwq := (HLX.out wq HGwq.out).2.2.1
  have HOwq : Hid (Calls Tryz.prog 17 #[podd18.v, .slice none 0 0] wq fun e w' => (∃ va, e = .returned (.tuple #[va, .int .i64 1])) ∧ wq.grownBy w' none) := Lib.hid (by
    have h := openPairs_any podd18 (.slice none 0 0) [] TT wq (Sl.nil _ _ _) (by decide)
    rw [show ([] : List Int).length = 0 from rfl, oe_2] at h
    refine h.mono ?_
    rintro e w' ⟨va, rfl, _, hg⟩
    exact ⟨⟨va, rfl⟩, hg⟩)
  go_upto_region 30 with (fail)
  go_wp2_with fail
  refine HOwq.out.mono ?_
  rintro e wr ⟨⟨vawr, rfl⟩, hg⟩
  have HGwr : Hid (wf.grownBy wr none) := Lib.hid (HGwq.out.trans hg)
  clear hg hqwq HOwq
  have hqwr := (HLX.out wr HGwr.out).2.2.1
  have HOwr : Hid (Calls Tryz.prog 18 #[podd18.v, .slice none 0 0] wr fun e w' => (∃ va, e = .returned (.tuple #[va, .int .i64 1])) ∧ wr.grownBy w' none) := Lib.hid (by
    have h := openComs_any podd18 (.slice none 0 0) [] TT wr (Sl.nil _ _ _) (by decide)
    rw [show ([] : List Int).length = 0 from rfl, oc_2] at h
    refine h.mono ?_
    rintro e w' ⟨va, rfl, _, hg⟩
    exact ⟨⟨va, rfl⟩, hg⟩)
  go_wp2_with fail
  refine HOwr.out.mono ?_
  rintro e ws ⟨⟨vaws, rfl⟩, hg⟩
  have HGws : Hid (wf.grownBy ws none) := Lib.hid (HGwr.out.trans hg)
  clear hg hqwr HOwr
  go_wp2_with fail
  refine (mk_at18 b 12 ws (HATf.out ws HGws.out)).mono ?_
  rintro e wt ⟨rfl, rfl⟩
  have hqt := (HLX.out wt HGws.out).1
  go_wp2_with fail
  obtain ⟨wu, hwu⟩ : ∃ y, y = wt.alloc (Obj.cells #[.int .u64 1, .int .u64 2, .int .u64 3, .int .u64 4] 22) := ⟨_, rfl⟩
  have HGtu : Hid (wt.grownBy wu none) := Lib.hid (by rw [hwu]; exact World.grownBy_alloc _ _ none)
  have HCO : Hid (Calls Tryz.prog 18 #[ps.v, .slice (some ⟨wt.heap.size, 0, none⟩) 4 4] wu (GivesE (encW encU) (fun g => wu.heap.size ≤ g) wu [[1, 2], [3, 4]] 0)) := Lib.hid (by
    have h := openComs_any ps (.slice (some ⟨wt.heap.size, 0, none⟩) 4 4) [1, 2, 3, 4] TT wu (by rw [hwu]; exact Sl.build [[.int .u64 1], [.int .u64 2], [.int .u64 3], [.int .u64 4]] rfl ⟨⟨rfl, by decide⟩, ⟨rfl, by decide⟩, ⟨rfl, by decide⟩, ⟨rfl, by decide⟩, trivial⟩ rfl (by decide)) (by decide)
    rw [oc_4, show ([1, 2, 3, 4] : List Int).length = 4 from rfl, oc_3] at h
    exact h)
  rw [← hwu]
  clear hwu hqt
  refine HCO.out.mono ?_
  rintro e wv ⟨vv, rfl, hsv, hg⟩
  have HSV : Hid (Sl (encS encU) (fun g => wu.heap.size ≤ g) wv vv [[1, 2], [3, 4]]) := Lib.hid hsv.plain
  obtain ⟨Av, nv, cv, rfl⟩ := hsv.shape
  have HGv : Hid (wf.grownBy wv none) := Lib.hid (HGws.out.trans (HGtu.out.trans hg))
  clear hsv hg HCO HGtu
  go_wp2_with fail
  obtain ⟨wx, hwx⟩ : ∃ y, y = ((wv.alloc (cU 1 2)).alloc (cU 3 4)).alloc (.cells #[.slice (some ⟨wv.heap.size, 0, none⟩) 2 2, .slice (some ⟨wv.heap.size + 1, 0, none⟩) 2 2] 29) := ⟨_, rfl⟩
  have HGx : Hid (wv.grownBy wx none) := Lib.hid (by rw [hwx]; exact (World.grownBy_alloc _ _ none).trans ((World.grownBy_alloc _ _ none).trans (World.grownBy_alloc _ _ none)))
  have HLI : Hid (Calls Tryz.prog 19 #[.slice Av nv cv, .slice (some ⟨wv.heap.size + 1 + 1, 0, none⟩) 2 2] wx (Quietly wx (.bool true))) := Lib.hid (lists_eq _ _ [[1, 2], [3, 4]] _ TT wx (HSV.out.kept HGx.out) (by rw [hwx]; exact slUU wv 1 2 3 4 ⟨by decide, by decide⟩ ⟨by decide, by decide⟩ ⟨by decide, by decide⟩ ⟨by decide, by decide⟩))
  rw [← hwx]
  clear hwx HSV
  refine HLI.out.mono ?_
  rintro e w' ⟨rfl, m, rfl⟩
  obtain ⟨wy, hwy⟩ : ∃ z, z = wx.drewN m := ⟨_, rfl⟩
  have HGy : Hid (wf.grownBy wy none) := Lib.hid (by rw [hwy]; exact HGv.out.trans (HGx.out.trans (grown_drewN' wx m)))
  rw [← hwy]
  clear hwy HLI HGx
  go_wp2_with fail
  refine (dpackG_any (.slice none 0 0) (.slice none 0 0) (.slice none 0 0) [] [] [] TT TT TT wy (Sl.nil _ _ _) (Sl.nil _ _ _) (Sl.nil _ _ _) (by simp [PackOk])).mono ?_
  rintro e wz ⟨vz, rfl, hz, hg⟩
  have hz : Sl encU (fun g => wy.heap.size ≤ g) wz vz [] := hz
  obtain ⟨Az, cz, ez, _, _⟩ := hz.form
  have ez : vz = .slice Az 0 cz := ez
  subst ez
  have HGz : Hid (wf.grownBy wz none) := Lib.hid (HGy.out.trans hg)
  clear hz hg
  go_wp2_with fail
  refine (dat_any (.slice none 0 0) [] 1 11 TT wz (Sl.nil _ _ _) ⟨by decide, by decide⟩ (by decide) (by simp)).mono ?_
  rintro e w10 ⟨v10, rfl, h10, hg10⟩
  have h10 : Sl encP (fun g => wz.heap.size ≤ g) w10 v10 [] := h10
  obtain ⟨A10, c10, e10, _, _⟩ := h10.form
  have e10 : v10 = .slice A10 0 c10 := e10
  subst e10
  have HGe : Hid (w.grownBy w10 none) := Lib.hid (HWf.out.trans (HGz.out.trans hg10))
  clear h10 hg10
  go_wp2
  go_ret
  exact ⟨rfl, HGe.out⟩
end Go.Proofs.YthicondcjeipfaaGreatDoor
