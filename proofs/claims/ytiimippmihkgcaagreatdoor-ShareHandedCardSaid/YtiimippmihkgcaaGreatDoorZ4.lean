/- share.Coms, walked (printed by mk_shrk.py). Draws of a tape, told to what deals: tape.New, deal.secrets, deal.behind, walked. slices.Chunk, an iterator over pieces of a list, walked. A region that draws its order, in which some operations, one behind the other (the late ones: appends, stores), turn what lay there (printed by mk_late.py from XMono). share.Model, walked. deal.two, walked. Pairs, cell by cell. deal.pairs, deal.two, walked (printed by mk_deale.py). -/
import Derived.Test.YtiimippmihkgcaaGreatDoorZ3
namespace Go.Proofs.YtiimippmihkgcaaGreatDoor
open Go Go.RowKit

theorem info_int : (Tryz.prog.info? 3).map (fun i => (i.zero, i.size, i.bytes)) = some (some (.int .i64 0), 1, 8) := by kernel_rfl
theorem el_int : ElemOk Tryz.prog 41 3 1 8 := ElemOk.mk' (by decide) Tryz.underlying41 info_int rfl
/-- A dealing that is not as long as it should be. -/
def badB (p : Par) (d : Int × List (List Int)) : Bool := !((d.2.length : Int) == secretsI p) || d.2.any (shortB p)
/-- Two lists built side by side: numbers, and lists of lists that lay there ahead. -/
structure Two (base : Nat) (wx : World) (v6 v7 : Value) (xs : List Int) (cs : List (List (List Int))) : Prop where
  fst : Acc encI base 3 (fun g => base ≤ g ∧ some g ≠ v7.ownBlock) wx v6 xs
  snd : Acc (encS (encS encU)) base 35 (fun g => g < base ∨ some g ≠ v6.ownBlock) wx v7 cs
theorem Two.kept {base : Nat} {wx w' : World} {v6 v7 : Value} {xs : List Int} {cs : List (List (List Int))} (h : Two base wx v6 v7 xs cs) (hg : wx.grownBy w' none) : Two base w' v6 v7 xs cs := ⟨h.fst.kept hg, h.snd.kept hg⟩
theorem Two.one {base : Nat} {wx w' : World} {v6 v7 v6' : Value} {xs xs' : List Int} {cs : List (List (List Int))} (h : Two base wx v6 v7 xs cs) (ha : Acc encI base 3 (fun g => base ≤ g ∧ some g ≠ v7.ownBlock) w' v6' xs') (hg : wx.grownBy w' v6.ownBlock) (hm : Moved wx v6 v6') : Two base w' v6' v7 xs' cs := by
  refine ⟨ha, ?_⟩
  have h1 : Acc (encS (encS encU)) base 35 (fun g => (g < base ∨ some g ≠ v6'.ownBlock) ∧ some g ≠ v6.ownBlock) wx v7 cs := h.snd.more fun g hg hx => by
    rcases hx with hx | hx
    · exact ⟨.inl hx, fun e => by have := (h.fst.lt g e.symm).1; omega⟩
    · exact ⟨.inr fun e => hm.ne hg (fun e' => hx e'.symm) e.symm, hx⟩
  exact (h1.keep hg fun g hx => hx.2).more fun g _ hx => hx.1
theorem Two.two {base : Nat} {wx w' : World} {v6 v7 v7' : Value} {xs : List Int} {cs cs' : List (List (List Int))} (h : Two base wx v6 v7 xs cs) (ha : Acc (encS (encS encU)) base 35 (fun g => g < base ∨ some g ≠ v6.ownBlock) w' v7' cs') (hg : wx.grownBy w' v7.ownBlock) (hm : Moved wx v7 v7') : Two base w' v6 v7' xs cs' := by
  refine ⟨?_, ha⟩
  have h1 : Acc encI base 3 (fun g => (base ≤ g ∧ some g ≠ v7'.ownBlock) ∧ some g ≠ v7.ownBlock) wx v6 xs := h.fst.more fun g hg hx => ⟨⟨hx.1, fun e => hm.ne hg (fun e' => hx.2 e'.symm) e.symm⟩, hx.2⟩
  exact (h1.keep hg fun g hx => hx.2).more fun g _ hx => hx.1
theorem Two.lt6 {base : Nat} {wx : World} {v6 v7 : Value} {xs : List Int} {cs : List (List (List Int))} (h : Two base wx v6 v7 xs cs) : ∀ g, wx.heap.size ≤ g → g < base ∨ some g ≠ v6.ownBlock := fun g hg => .inr fun e => by have := (h.fst.lt g e.symm).2; omega
theorem Two.lt7 {base : Nat} {wx : World} {v6 v7 : Value} {xs : List Int} {cs : List (List (List Int))} (h : Two base wx v6 v7 xs cs) (hb : base ≤ wx.heap.size) : ∀ g, wx.heap.size ≤ g → base ≤ g ∧ some g ≠ v7.ownBlock := fun g hg => ⟨by omega, fun e => by have := (h.snd.lt g e.symm).2; omega⟩
theorem Two.hZ {base : Nat} {wx : World} {v6 v7 : Value} {xs : List Int} {cs : List (List (List Int))} (h : Two base wx v6 v7 xs cs) {w' : World} : ∀ (c : List Value) (y : List (List Int)), (encS (encS encU)).rep (fun g => g < base) w' c y → (encS (encS encU)).rep (fun g => (g < base ∨ some g ≠ v6.ownBlock) ∧ some g ≠ v7.ownBlock) w' c y := fun c y hr => (encS (encS encU)).more hr fun g _ hx => ⟨.inl hx, fun e => by have := (h.snd.lt g e.symm).1; omega⟩
/-- The first j dealings are as long as they should be. -/
def OkTo (p : Par) (deals : List (Int × List (List Int))) (j : Nat) : Prop := ∀ i (h : i < deals.length), i < j → badB p deals[i] = false
theorem OkTo.all {p : Par} {deals : List (Int × List (List Int))} (h : OkTo p deals deals.length) : ∀ d ∈ deals, badB p d = false := fun d hd => by
  obtain ⟨i, hi, rfl⟩ := List.getElem_of_mem hd
  exact h i hi hi
theorem gives_nil {α : Type} {E : Enc α} {Y : Nat → Prop} {w w' : World} {xs : List α} {n k : Int} (h1 : n = k) (h2 : xs = []) (hg : w.grownBy w' none) : GivesE E Y w xs n (.returned (.tuple #[.slice none 0 0, .int .i64 k])) w' := by
  subst h1 h2
  exact ⟨_, rfl, Sl.nil _ _ _, hg⟩
theorem gives_fin {α : Type} {E : Enc α} {Y : Nat → Prop} {w w' : World} {xs : List α} {n k : Int} {v : Value} (hs : Sl E Y w' v xs) (h1 : n = k) (hg : w.grownBy w' none) : GivesE E Y w xs n (.returned (.tuple #[v, .int .i64 k])) w' := by
  subst h1
  exact ⟨_, rfl, hs, hg⟩
theorem grown_two {w : World} {a b : Obj} : w.grownBy ((w.alloc a).alloc b) none := (World.grownBy_alloc w _ none).trans (World.grownBy_alloc _ _ none)
theorem Bk.one {w : World} {b : Nat} {t : TypeId} {u : Value} (h : Bk w b t #[u]) : ∀ j v, [u][j]? = some v → w.cell? ⟨b, j, none⟩ = some v := fun j v hv => by rw [h.cell j]; simpa using hv
section
variable {α : Type} {P : Program} {E : Enc α} {base : Nat} {e : TypeId} {X : Nat → Prop} {w : World} {v : Value} {xs : List α}
/-- append(out, y): the thing y lies in a block that is known. -/
theorem pushAt_core {cs : List Value} {y : α} {t : TypeId} {bytes b c : Nat} (hE : ElemOk P t e E.size bytes) (hacc : Acc E base e X w v xs) (hrep : E.rep (fun g => X g ∧ some g ≠ v.ownBlock) w cs y) (hcell : ∀ j u, cs[j]? = some u → w.cell? ⟨b, j, none⟩ = some u)
    (hlen : (xs.length + 1) * bytes ≤ 140737488355328) (hb : base ≤ w.heap.size) (hN : ∀ g, w.heap.size ≤ g → X g)
    {o : Oper} {a : Act} {K : Act → World → Prop} {Q : Exit → Act → World → Prop} (s x : Operand)
    (ho : o.op = .call { callee := .builtin .append, args := #[s, x], argTypes := #[t, t] }) (hs : a.eval s = v) (hx : a.eval x = .slice (some ⟨b, 0, none⟩) 1 c)
    (h : ∀ v' w', Acc E base e X w' v' (xs ++ [y]) → w.grownBy w' v.ownBlock → Moved w v v' → K (a.put o.dst v') w') : o.wp P a w K Q := by
  obtain ⟨_, css, h1, _, h3⟩ := id hacc
  have hcl := E.len hrep
  refine wp_app s x t ho (size := E.size) hE E.pos hs h3 (some ⟨b, 0, none⟩) 1 c cs hx (by rw [hcl, Nat.one_mul]) (by simp) ?_ (E.ones hrep) hlen hb ?_
  · intro ad e' j u hu
    injection e' with e'
    subst e'
    rw [← hcell j u hu]
    unfold Addr.add
    split
    · rename_i h0
      have : j = 0 := by simpa using h0
      subst this
      rfl
    · simp
  · intro v' w' hown hg hat
    have hat' : Moved w v v' := hat.imp id fun e => ⟨_, Nat.le_refl _, e⟩
    refine h v' w' (hacc.app (cs2 := [cs]) (ys := [y]) rfl (fun i hi hi' => ?_) (fun css' hc' => ?_) hg hat' hN) hg hat'
    · have : i = 0 := by simp at hi; omega
      subst this
      exact hrep
    · have e1 : css' = css.flatten := own_same hc' h3
      rw [e1]
      simpa using hown
theorem step_pushAt {cs : List Value} {y : α} {t : TypeId} {bytes b c : Nat} {ops : Array Oper} {o : Oper} {a : Act} {K : Act → World → Prop} {Q : Exit → Act → World → Prop} {F : Prop} (hgd : o.guard = none) (s x : Operand)
    (ho : o.op = .call { callee := .builtin .append, args := #[s, x], argTypes := #[t, t] }) (hE : ElemOk P t e E.size bytes) (hacc : Acc E base e X w v xs) (hs : a.eval s = v) (hx : a.eval x = .slice (some ⟨b, 0, none⟩) 1 c) (hrep : E.rep (fun g => X g ∧ some g ≠ v.ownBlock) w cs y) (hcell : ∀ j u, cs[j]? = some u → w.cell? ⟨b, j, none⟩ = some u)
    (hlen : (xs.length + 1) * bytes ≤ 140737488355328) (hb : base ≤ w.heap.size) (hN : ∀ g, w.heap.size ≤ g → X g)
    (h : ∀ v' w', Acc E base e X w' v' (xs ++ [y]) → w.grownBy w' v.ownBlock → Moved w v v' → K (a.put o.dst v') w') : if Region.wanted o (yielded ops a.tmps) = true then Oper.wp P o a w K Q else F := by
  have hw : Region.wanted o (yielded ops a.tmps) = true := by simp [Region.wanted, hgd]
  rw [if_pos hw]
  exact pushAt_core hE hacc hrep hcell hlen hb hN s x ho hs hx h
end
set_option maxRecDepth 100000 in
set_option maxHeartbeats 4000000 in
theorem scoms_any (p : Par) (vd : Value) (deals : List (Int × List (List Int))) (X : Nat → Prop) (w : World) (hp : p.ok) (hd : Sl encD X w vd deals) (hb1 : deals.length ≤ 100000) (hb2 : ∀ d ∈ deals, d.2.length ≤ 100000) :
    Calls Tryz.prog 13 #[p.v, vd] w (GivesE (encS encU) (fun g => w.heap.size ≤ g) w (comsL p deals) (comsE p deals)) := by
  have HB : Hid (Bk (w.alloc (.cells p.cells 24)) w.heap.size 24 p.cells) := Lib.hid (Bk.new w _ _)
  have HG0 : Hid (w.grownBy (w.alloc (.cells p.cells 24)) none) := Lib.hid (World.grownBy_alloc w _ none)
  have HS1 := Lib.hid (ssmall_any p)
  have HSE := Lib.hid (ssecrets_any p)
  have HQ := Lib.hid hp.Q
  have HD := Lib.hid hd
  obtain ⟨A, c, rfl, _, _⟩ := hd.form
  clear hd hp
  cases b1 : smallB p with
  | false =>
    have h1 : comsE p deals = 1 := by simp [comsE, b1]
    have HL0 : Hid (comsL p deals = []) := Lib.hid (by simp [comsL, h1])
    rw [h1]
    rw [b1] at HS1
    clear h1 b1 HD
    generalize deals.length = n at *
    go_enter Tryz.func13, Tryz.ntmps13
    go_wp2_with fail
    refine (HS1.out _).mono ?_
    rintro e w1 ⟨rfl, hg1⟩
    have HG1 := Lib.hid (HG0.out.trans hg1)
    have hp1 := (HB.out.grown hg1 (by simp)).prule
    clear hg1
    go_wp2_with fail
    go_ret2
    exact ⟨_, rfl, by rw [HL0.out]; exact Sl.nil _ _ _, HG1.out⟩
  | true =>
    rw [b1] at HS1
    by_cases ht : p.T < 0
    · have h1 : comsE p deals = 1 := by unfold comsE; rw [if_neg]; simp; omega
      have HL0 : Hid (comsL p deals = []) := Lib.hid (by simp [comsL, h1])
      have d1 : decide (p.T < 0) = true := by simpa using ht
      rw [h1]
      clear h1 b1 HD ht
      generalize deals.length = n at *
      go_enter Tryz.func13, Tryz.ntmps13
      go_wp2_with fail
      refine (HS1.out _).mono ?_
      rintro e w1 ⟨rfl, hg1⟩
      have HG1 := Lib.hid (HG0.out.trans hg1)
      have hp1 := (HB.out.grown hg1 (by simp)).prule
      clear hg1
      go_wp2_with fail
      go_ret2
      exact ⟨_, rfl, by rw [HL0.out]; exact Sl.nil _ _ _, HG1.out⟩
    · have d1 : decide (p.T < 0) = false := by simpa using ht
      by_cases ht2 : p.T ≤ 2
      · have d2 : decide (p.T > 2) = false := by simpa using ht2
        have hsec := smallB_secrets b1
        obtain ⟨N, hN⟩ : ∃ N, N = (secretsI p).toNat := ⟨_, rfl⟩
        have HN : Hid (secretsI p = (N : Int) ∧ N ≤ 10) := Lib.hid (by omega)
        obtain ⟨t, hT⟩ : ∃ t : Nat, t = (p.T + 1).toNat := ⟨_, rfl⟩
        have HT : Hid (p.T + 1 = (t : Int) ∧ t ≤ 3 ∧ 1 ≤ t) := Lib.hid (by omega)
        have hw1 : wrap64 (p.T + 1) = (t : Int) := by have := HT.out.1; rw [wrap64_small (by omega)]; omega
        rw [HN.out.1] at HSE
        have HE1 : Hid ((∃ d ∈ deals, badB p d = true) → comsE p deals = 1) := Lib.hid (by
          rintro ⟨d, hd, hb⟩
          have : deals.any (fun d => !((d.2.length : Int) == secretsI p) || d.2.any (shortB p)) = true := List.any_eq_true.2 ⟨d, hd, hb⟩
          unfold comsE
          rw [this]
          simp)
        have HE0 : Hid ((∀ d ∈ deals, badB p d = false) → comsE p deals = if membersB (deals.map (·.1)) = true then wErr p.Q (deals.map (·.1)) 0 else 1) := Lib.hid (by
          intro h
          have : deals.any (fun d => !((d.2.length : Int) == secretsI p) || d.2.any (shortB p)) = false := List.any_eq_false.2 fun d hd => by rw [show (!((d.2.length : Int) == secretsI p) || d.2.any (shortB p)) = badB p d from rfl, h d hd]; simp
          unfold comsE
          rw [this, b1]
          simp [show 0 ≤ p.T ∧ p.T ≤ 2 by omega])
        have HLE : Hid (comsE p deals ≠ 0 → comsL p deals = []) := Lib.hid (fun h => by simp [comsL, h])
        have HLL : Hid (comsE p deals = 0 → comsL p deals = (List.range N).map fun s => (List.range t).map fun j => comeU p.P (deals.map fun d => (d.2[s]?.getD [])[j]?.getD 0) (wList p.Q (deals.map (·.1)) 0) (timesI p.P [])) := Lib.hid (fun h => by rw [comsL, if_pos h, hN, hT])
        have HXB : Hid (∀ d, badB p d = (!((d.2.length : Int) == (N : Int)) || d.2.any (shortB p))) := Lib.hid (fun d => by rw [badB, HN.out.1])
        have HSH : Hid (∀ x, shortB p x = !((x.length : Int) == (t : Int))) := Lib.hid (fun x => by rw [shortB, hw1])
        clear hsec hN hT b1 ht ht2
        have HCS : Hid (∀ v l w', Sl (encS encU) X w v l → w.grownBy w' none → Bk w' w.heap.size 24 p.cells → _) := Lib.hid (fun v l w' hv hw hbk => containsShort p w.heap.size v l X w' hbk (hv.kept hw))
        go_enter Tryz.func13, Tryz.ntmps13
        go_wp2_with fail
        refine (HS1.out _).mono ?_
        rintro e w1 ⟨rfl, hg1⟩
        have HG1 := Lib.hid (HG0.out.trans hg1)
        have HB1 := Lib.hid (HB.out.grown hg1 (by simp))
        have hp1 := HB1.out.prule
        clear hg1
        go_wp2_with fail
        go_loopg [6, 7, 34] deals.length (fun g s6 s7 s34 wx => ∃ j : Nat, j + g = deals.length ∧ s34 = .int .i64 j ∧ Hid (Two w1.heap.size wx s6 s7 ((deals.take j).map (·.1)) ((deals.take j).map (·.2)) ∧ w1.grownBy wx none ∧ OkTo p deals j))
        case atStart => exact ⟨0, by omega, rfl, Lib.hid ⟨⟨Acc.nil _ _ _ _ _, Acc.nil _ _ _ _ _⟩, World.grownBy.refl _ none, fun i h hi => absurd hi (by omega)⟩⟩
        case round =>
          obtain ⟨j, hj, rfl, HX⟩ := hrel
          cases gk with
          | zero =>
            obtain rfl : j = deals.length := by omega
            obtain ⟨htw, hg, hok⟩ := HX.out
            rw [List.take_length] at htw
            have hE := HE0.out hok.all
            have HOK : Hid (∀ d ∈ deals, badB p d = false) := Lib.hid hok.all
            have HGG := Lib.hid (HG1.out.trans hg)
            have HS6 := Lib.hid htw.fst.sl
            have HS7 := Lib.hid htw.snd.sl
            have HBR := Lib.hid (HB1.out.grown hg (by simp))
            obtain ⟨A6, c6, e6, k6, l6⟩ := htw.fst.sl.form
            obtain ⟨A7, c7, e7, k7, l7⟩ := htw.snd.sl.form
            rw [List.length_map] at e6 e7 k6 k7
            subst e6 e7
            obtain ⟨xs, hxs⟩ : ∃ y, y = deals.map (·.1) := ⟨_, rfl⟩
            obtain ⟨cs, hcs⟩ : ∃ y, y = deals.map (·.2) := ⟨_, rfl⟩
            have HXL : Hid (xs.length = deals.length ∧ cs.length = deals.length) := Lib.hid (by rw [hxs, hcs]; simp)
            have HCS0 : Hid (∀ x ∈ cs, x.length = N ∧ ∀ y ∈ x, y.length = t) := Lib.hid (by
              intro x hx
              rw [hcs] at hx
              obtain ⟨d, hd, rfl⟩ := List.mem_map.1 hx
              have h1 := HOK.out d hd
              rw [HXB.out] at h1
              simp at h1
              refine ⟨by have := h1.1; omega, fun y hy => ?_⟩
              have h2 := h1.2 y hy
              rw [HSH.out] at h2
              simp at h2
              omega)
            have HLL2 : Hid (comsE p deals = 0 → comsL p deals = (List.range N).map fun s => (List.range t).map fun j => comeU p.P ((cs.map fun x => x[s]?.getD []).map fun x => x[j]?.getD 0) (wList p.Q xs 0) (timesI p.P [])) := Lib.hid (fun h => by
              rw [HLL.out h, hcs, hxs]
              simp only [List.map_map]
              rfl)
            rw [← hxs] at hE HS6
            rw [← hcs] at HS7
            have HM1 := Lib.hid (members_any _ xs _ wr HS6.out)
            clear htw hok hg hxs hcs HX HE0 HE1 HLL HXB HSH HOK HD
            cases b2 : membersB xs with
            | false =>
              rw [b2] at hE HM1
              have h1 : comsE p deals = 1 := hE
              have HL0 : Hid (comsE p deals = 1 ∧ comsL p deals = []) := Lib.hid ⟨h1, HLE.out (by rw [h1]; decide)⟩
              clear h1 hE b2
              generalize deals.length = n at *
              go_wp2_with fail
              refine HM1.out.mono ?_
              rintro e w2 ⟨rfl, hg2⟩
              have HG2 := Lib.hid (HGG.out.trans hg2)
              clear hg2
              go_wp2_with fail
              go_ret2
              exact gives_nil HL0.out.1 HL0.out.2 HG2.out
            | true =>
              rw [b2] at hE HM1
              have hE : comsE p deals = wErr p.Q xs 0 := hE
              obtain ⟨hn0, hm⟩ := membersB_yes b2
              have HW : Hid (∀ w', wr.grownBy w' none → _) := Lib.hid (fun w' hw => sweights_any _ xs p.Q _ w' (HS6.out.kept hw) hm HQ.out (by rw [HXL.out.1]; exact hb1))
              obtain ⟨we, hwe⟩ : ∃ we, we = wErr p.Q xs 0 := ⟨_, rfl⟩
              obtain ⟨wl, hwl⟩ : ∃ wl, wl = wList p.Q xs 0 := ⟨_, rfl⟩
              rw [← hwe, ← hwl] at HW
              rw [← hwe] at hE
              rw [← hwl] at HLL2
              by_cases he : we = 0
              · subst he
                have HLL := Lib.hid (HLL2.out hE)
                have HEE := Lib.hid hE
                have HWLN : Hid (wl.length = deals.length) := Lib.hid (by rw [hwl, wList, if_pos hwe.symm, List.length_map, List.length_range, HXL.out.1])
                have HDL := Lib.hid hb1
                generalize hnd : deals.length = n at *
                obtain ⟨z0, hz0⟩ : ∃ z, z = timesI p.P [] := ⟨_, rfl⟩
                have HTN := Lib.hid (times_nil p)
                have HZU : Hid (U64 z0) := Lib.hid (by rw [hz0]; exact timesI_U64 p.P [])
                rw [← hz0] at HTN HLL
                have HAS : Hid (∀ s w', s < N → wr.grownBy w' none → _) := Lib.hid (fun s w' (hs : s < N) (hw : wr.grownBy w' none) => allS_any _ cs s _ w' (HS7.out.kept hw) (fun x hx => by have := (HCS0.out x hx).1; omega) (by rw [HXL.out.2]; exact HDL.out) (by have := HN.out.2; omega))
                have HAU : Hid (∀ s k v w', s < N → k < t → Sl (encS encU) TT w' v (cs.map fun x => x[s]?.getD []) → _) := Lib.hid (fun s k v w' (hs : s < N) (hk : k < t) hv => allU_any v (cs.map fun x => x[s]?.getD []) k TT w' hv (fun x hx => by
                  obtain ⟨y, hy, rfl⟩ := List.mem_map.1 hx
                  obtain ⟨h1, h2⟩ := HCS0.out y hy
                  have hs' : s < y.length := by omega
                  rw [List.getElem?_eq_getElem hs', Option.getD_some, h2 _ (List.getElem_mem hs')]
                  exact hk) (by rw [List.length_map, HXL.out.2]; exact HDL.out) (by have := HT.out.2.1; omega))
                have HCO : Hid (∀ (L : List Int) v vw Y w', L.length = n → Sl encU TT w' v L → Sl encU Y w' vw wl → Bk w' w.heap.size 24 p.cells → _) := Lib.hid (fun L v vw Y w' hl hv hk hbk => comeU_any p w.heap.size v vw L wl z0 TT Y w' hbk hv hk (by rw [hl, HWLN.out]; exact Nat.le_refl _) HZU.out)
                have HRUU : Hid (∀ L, U64 (comeU p.P L wl z0)) := Lib.hid (fun L => comeU_U64 p.P (timesI_U64 p.P) L wl z0 HZU.out)
                clear hwe hwl hE hn0 hm hz0 hnd
                go_wp2_with fail
                refine HM1.out.mono ?_
                rintro e w2 ⟨rfl, hg2⟩
                have HR2 := Lib.hid hg2
                have HB2 := Lib.hid (HBR.out.grown hg2 (by simp))
                have hp2 := HB2.out.prule
                clear hg2 hp1
                go_wp2_with fail
                refine (HW.out _ HR2.out).mono ?_
                rintro e w3 ⟨vw, rfl, hsw, hg3⟩
                have HR3 := Lib.hid (HR2.out.trans hg3)
                have HB3 := Lib.hid (HB2.out.grown hg3 (by simp))
                have hp3 := HB3.out.prule
                obtain ⟨Aw, cw, ew, _, _⟩ := hsw.form
                subst ew
                have HSW := Lib.hid hsw
                clear hg3 hsw hp2
                go_wp2_with fail
                refine (HSE.out _).mono ?_
                rintro e w4 ⟨rfl, hg4⟩
                have HR4 := Lib.hid (HR3.out.trans hg4)
                have HB4 := Lib.hid (HB3.out.grown hg4 (by simp))
                have HSW4 := Lib.hid (HSW.out.kept hg4)
                have HGW4 := Lib.hid (HGG.out.trans HR4.out)
                clear hg4 hp3
                obtain ⟨wz, hwz⟩ : ∃ y, y = wr := ⟨_, rfl⟩
                subst hwz
                go_wp2_with fail
                go_loopg [15, 79] N (fun g s15 s79 wx => ∃ i : Nat, i + g = N ∧ s79 = .int .i64 i ∧ Hid (Acc (encS encU) w4.heap.size 39 (fun g => w.heap.size ≤ g) wx s15 ((List.range i).map fun s => (List.range t).map fun j => comeU p.P ((cs.map fun x => x[s]?.getD []).map fun x => x[j]?.getD 0) wl z0) ∧ w4.grownBy wx none))
                case atStart => exact ⟨0, by omega, rfl, Lib.hid ⟨Acc.nil _ _ _ _ _, World.grownBy.refl _ none⟩⟩
                case round =>
                  obtain ⟨i, hi, rfl, HX⟩ := hrel
                  cases gk with
                  | zero =>
                    obtain rfl : i = N := by omega
                    have HR : Hid (Sl (encS encU) (fun g => w.heap.size ≤ g) wr u15 (comsL p deals) ∧ w.grownBy wr none ∧ comsE p deals = 0) := Lib.hid ⟨by rw [HLL.out]; exact HX.out.1.sl, HGW4.out.trans HX.out.2, HEE.out⟩
                    clear HX
                    go_wp2
                    go_ret2
                    exact gives_fin HR.out.1 HR.out.2.2 HR.out.2.1
                  | succ m =>
                    have hin : (i : Int) < (N : Int) := by omega
                    have hiN : i < N := by omega
                    have hN10 : N ≤ 10 := HN.out.2
                    have ht3 : t ≤ 3 := HT.out.2.1
                    have HAO := Lib.hid HX.out.1
                    have HGo := Lib.hid HX.out.2
                    obtain ⟨wo, hwo⟩ : ∃ y, y = wr := ⟨_, rfl⟩
                    subst hwo
                    have HBo := Lib.hid (HB4.out.grown HGo.out (by simp))
                    have HRo := Lib.hid (HR4.out.trans HGo.out)
                    have HWo := Lib.hid (HSW4.out.kept HGo.out)
                    have HASo := Lib.hid (fun w' (hw : wo.grownBy w' none) => HAS.out i w' hiN (HRo.out.trans hw))
                    have HAUo := Lib.hid (fun k v w' (hk : k < t) hv => HAU.out i k v w' hiN hk hv)
                    have HSNo : Hid (((List.range (i + 1)).map fun s => (List.range t).map fun j => comeU p.P ((cs.map fun x => x[s]?.getD []).map fun x => x[j]?.getD 0) wl z0) = ((List.range i).map fun s => (List.range t).map fun j => comeU p.P ((cs.map fun x => x[s]?.getD []).map fun x => x[j]?.getD 0) wl z0) ++ [(List.range t).map fun j => comeU p.P ((cs.map fun x => x[i]?.getD []).map fun x => x[j]?.getD 0) wl z0]) := Lib.hid (by simp [List.range_succ])
                    obtain ⟨L1, hL1⟩ : ∃ y, y = cs.map fun x => x[i]?.getD [] := ⟨_, rfl⟩
                    rw [← hL1] at HASo HAUo HSNo
                    have HL1 : Hid (L1.length = n) := Lib.hid (by rw [hL1, List.length_map, HXL.out.2])
                    obtain ⟨RO, hRO⟩ : ∃ y, y = (List.range i).map fun s => (List.range t).map fun j => comeU p.P ((cs.map fun x => x[s]?.getD []).map fun x => x[j]?.getD 0) wl z0 := ⟨_, rfl⟩
                    rw [← hRO] at HAO HSNo
                    have HLBo : Hid ((RO.length + 1) * 24 ≤ 140737488355328) := Lib.hid (by rw [hRO, List.length_map, List.length_range]; have := HN.out.2; omega)
                    have hpo := HBo.out.prule
                    clear HX hL1 hRO
                    go_wp2_with fail
                    simp only [hw1]
                    go_loopg [17, 85] t (fun g s17 s85 wx => ∃ k : Nat, k + g = t ∧ s85 = .int .i64 k ∧ Hid (Acc encU wo.heap.size 22 (fun g => wo.heap.size ≤ g) wx s17 ((List.range k).map fun j => comeU p.P (L1.map fun x => x[j]?.getD 0) wl z0) ∧ wo.grownBy wx none))
                    case atStart => exact ⟨0, by omega, rfl, Lib.hid ⟨Acc.nil _ _ _ _ _, World.grownBy.refl _ none⟩⟩
                    case round =>
                      obtain ⟨k, hk, rfl, HY⟩ := hrel
                      cases gk with
                      | zero =>
                        obtain rfl : k = t := by omega
                        have HSl := Lib.hid HY.out.1.sl
                        obtain ⟨A17, c17, e17, _, _⟩ := HY.out.1.sl.form
                        rw [List.length_map, List.length_range] at e17
                        subst e17
                        have HAO2 := Lib.hid (HAO.out.kept HY.out.2)
                        have HG5 := Lib.hid (HGo.out.trans HY.out.2)
                        have HREP : Hid ((encS encU).rep (fun g => w.heap.size ≤ g ∧ some g ≠ u15.ownBlock) wr [.slice A17 k c17] ((List.range k).map fun j => comeU p.P (L1.map fun x => x[j]?.getD 0) wl z0)) := Lib.hid ⟨_, rfl, HSl.out.more fun g _ hx => ⟨Nat.le_trans (HGW4.out.trans HGo.out).size hx, fun e => by have := (HAO.out.lt g e.symm).2; omega⟩⟩
                        have HWB : Hid (∀ g, w4.heap.size ≤ g → w.heap.size ≤ g) := Lib.hid (fun g h => Nat.le_trans HGW4.out.size h)
                        clear HY
                        go_wp2_with (at_builtin; refine wpList_pushG rfl (.tmp 103) (.tmp 105) rfl (E := encS encU) el_nums HG5.out HAO2.out HWB.out HREP.out HLBo.out rfl rfl ?_)
                        intro v2 w9 hacc2 hg9 hgo
                        have HFIN : Hid (Acc (encS encU) w4.heap.size 39 (fun g => w.heap.size ≤ g) w9 v2 ((List.range (i + 1)).map fun s => (List.range k).map fun j => comeU p.P ((cs.map fun x => x[s]?.getD []).map fun x => x[j]?.getD 0) wl z0) ∧ w4.grownBy w9 none) := Lib.hid ⟨by rw [HSNo.out]; exact hacc2, hg9⟩
                        clear hacc2 hg9 hgo
                        go_wp2_with fail
                        go_roundg m
                        case measure => omega
                        case rel => exact ⟨i + 1, by omega, by go_num, HFIN⟩
                      | succ m2 =>
                        have hkn : (k : Int) < (t : Int) := by omega
                        have hkN : k < t := by omega
                        have HBk := Lib.hid ((HBo.out.grown HY.out.2 (by simp)).grown (grown_drewN' wr 1) (by simp))
                        have HWk := Lib.hid ((HWo.out.kept HY.out.2).kept (grown_drewN' wr 1))
                        have HGk := Lib.hid (HY.out.2.trans (grown_drewN' wr 1))
                        have HAk := Lib.hid (HY.out.1.kept (grown_drewN' wr 1))
                        obtain ⟨A17, c17, e17, _, _⟩ := HY.out.1.sl.form
                        rw [List.length_map, List.length_range] at e17
                        subst e17
                        have HSN : Hid (((List.range (k + 1)).map fun j => comeU p.P (L1.map fun x => x[j]?.getD 0) wl z0) = ((List.range k).map fun j => comeU p.P (L1.map fun x => x[j]?.getD 0) wl z0) ++ [comeU p.P (L1.map fun x => x[k]?.getD 0) wl z0]) := Lib.hid (by simp [List.range_succ])
                        have HASi := Lib.hid (fun w' (hw : wr.drew.grownBy w' none) => HASo.out w' (HGk.out.trans hw))
                        have HAUi := Lib.hid (fun v w' hv (_ : wr.drew.grownBy w' none) => HAUo.out k v w' hkN hv)
                        obtain ⟨L2, hL2⟩ : ∃ y, y = L1.map fun x => x[k]?.getD 0 := ⟨_, rfl⟩
                        rw [← hL2] at HAUi HSN
                        have HCOi := Lib.hid (fun v w' hv (hw : wr.drew.grownBy w' none) => HCO.out L2 v _ _ w' (by rw [hL2, List.length_map, HL1.out]) hv (HWk.out.kept hw) (HBk.out.grown hw (by simp)))
                        have HRU := Lib.hid (HRUU.out L2)
                        obtain ⟨r, hr⟩ : ∃ y, y = comeU p.P L2 wl z0 := ⟨_, rfl⟩
                        rw [← hr] at HCOi HRU HSN
                        obtain ⟨RI, hRI⟩ : ∃ y, y = (List.range k).map fun j => comeU p.P (L1.map fun x => x[j]?.getD 0) wl z0 := ⟨_, rfl⟩
                        rw [← hRI] at HSN HAk
                        have HLB : Hid ((RI.length + [r].length) * 8 ≤ 140737488355328) := Lib.hid (by rw [hRI, List.length_map, List.length_range]; have := HT.out.2.1; simp; omega)
                        have HT3 := Lib.hid HT.out.2.1
                        clear HY hL2 hr hRI
                        go_upto_region 28 with (fail)
                        refine wp_region_mono 13 (by kernel_rfl) (by kernel_rfl) ?_
                        -- op 0 (slot 88): move
                        refine MonoR.step (Pv.eq (.slice A17 k c17)) [] (by kernel_rfl) (fun w' hw' => ?_) ?_
                        · refine ask_do rfl fun K hK => ?_
                          go_simp
                          exact hK _ _ rfl rfl (World.grownBy.refl _ none)
                        -- op 1 (slot 89): move
                        refine MonoR.step (Pv.eq (.slice A7 n c7)) [] (by kernel_rfl) (fun w' hw' => ?_) ?_
                        · refine ask_do rfl fun K hK => ?_
                          go_simp
                          exact hK _ _ rfl rfl (World.grownBy.refl _ none)
                        -- op 2 (slot 90): move
                        refine MonoR.step (Pv.eq (.int .i64 (i : Int))) [] (by kernel_rfl) (fun w' hw' => ?_) ?_
                        · refine ask_do rfl fun K hK => ?_
                          go_simp
                          exact hK _ _ rfl rfl (World.grownBy.refl _ none)
                        -- op 3 (slot 91): call
                        refine MonoR.step (Pv.sl (encS encU) TT L1) [(1, 89), (2, 90)] (by kernel_rfl) (fun w' hw' => ?_) ?_
                        · rintro _ rfl
                          rintro _ rfl
                          refine ask_do rfl fun K hK => ?_
                          go_simp
                          refine (HASi.out w' hw').mono ?_
                          rintro e w3 ⟨v3, rfl, h3, hg⟩
                          exact hK _ _ rfl (h3.more (fun _ _ _ => trivial)) hg
                        -- op 4 (slot 92): move
                        refine MonoR.step (Pv.eq (.int .i64 (k : Int))) [] (by kernel_rfl) (fun w' hw' => ?_) ?_
                        · refine ask_do rfl fun K hK => ?_
                          go_simp
                          exact hK _ _ rfl rfl (World.grownBy.refl _ none)
                        -- op 5 (slot 93): call
                        refine MonoR.step (Pv.sl (encU) TT L2) [(3, 91), (4, 92)] (by kernel_rfl) (fun w' hw' => ?_) ?_
                        · intro x91 h91
                          have h91 : Sl (encS encU) TT w' x91 L1 := h91
                          obtain ⟨A91, c91, e91, k91, l91⟩ := h91.form
                          have e91 : x91 = .slice A91 L1.length c91 := e91
                          subst e91
                          rintro _ rfl
                          refine ask_do rfl fun K hK => ?_
                          go_simp
                          refine (HAUi.out _ w' h91 hw').mono ?_
                          rintro e w3 ⟨v3, rfl, h3, hg⟩
                          exact hK _ _ rfl (h3.more (fun _ _ _ => trivial)) hg
                        -- op 6 (slot 94): move
                        refine MonoR.step (Pv.eq (.slice Aw wl.length cw)) [] (by kernel_rfl) (fun w' hw' => ?_) ?_
                        · refine ask_do rfl fun K hK => ?_
                          go_simp
                          exact hK _ _ rfl rfl (World.grownBy.refl _ none)
                        -- op 7 (slot 95): load
                        refine MonoR.step (Pv.eq (p.v)) [] (by kernel_rfl) (fun w' hw' => ?_) ?_
                        · refine ask_do rfl fun K hK => ?_
                          have hp := (HBk.out.grown hw' (by simp)).prule
                          go_simp
                          exact hK _ _ rfl rfl (World.grownBy.refl _ none)
                        -- op 8 (slot 96): call
                        refine MonoR.step (Pv.eq (.int .u64 z0)) [(7, 95)] (by kernel_rfl) (fun w' hw' => ?_) ?_
                        · rintro _ rfl
                          refine ask_do rfl fun K hK => ?_
                          go_simp
                          refine (HTN.out w').mono ?_
                          rintro e w3 ⟨rfl, hg⟩
                          exact hK _ _ rfl rfl hg
                        -- op 9 (slot 97): move
                        refine MonoR.step (Pv.eq (.func (.func 60) #[] #[.pointer (some ⟨w.heap.size, 0, none⟩)])) [] (by kernel_rfl) (fun w' hw' => ?_) ?_
                        · refine ask_do rfl fun K hK => ?_
                          go_simp
                          exact hK _ _ rfl rfl (World.grownBy.refl _ none)
                        -- op 10 (slot 98): move
                        refine MonoR.step (Pv.eq (.func (.func 62) #[] #[.pointer (some ⟨w.heap.size, 0, none⟩)])) [] (by kernel_rfl) (fun w' hw' => ?_) ?_
                        · refine ask_do rfl fun K hK => ?_
                          go_simp
                          exact hK _ _ rfl rfl (World.grownBy.refl _ none)
                        -- op 11 (slot 99): call
                        refine MonoR.step (Pv.eq (.int .u64 r)) [(5, 93), (6, 94), (8, 96), (9, 97), (10, 98)] (by kernel_rfl) (fun w' hw' => ?_) ?_
                        · intro x93 h93
                          have h93 : Sl (encU) TT w' x93 L2 := h93
                          obtain ⟨A93, c93, e93, k93, l93⟩ := h93.form
                          have e93 : x93 = .slice A93 L2.length c93 := e93
                          subst e93
                          rintro _ rfl
                          rintro _ rfl
                          rintro _ rfl
                          rintro _ rfl
                          refine ask_do rfl fun K hK => ?_
                          go_simp
                          refine (HCOi.out _ w' h93 hw').mono ?_
                          rintro e w3 ⟨rfl, hg⟩
                          exact hK _ _ rfl rfl hg
                        -- op 12 (slot 100): buildSlice
                        refine MonoR.step (Pv.sl (encU) TT [r]) [(11, 99)] (by kernel_rfl) (fun w' hw' => ?_) ?_
                        · rintro _ rfl
                          refine ask_do rfl fun K hK => ?_
                          go_simp
                          exact hK _ _ rfl (Sl.build [[.int .u64 r]] rfl ⟨⟨rfl, HRU.out⟩, trivial⟩ rfl (by decide)) (World.grownBy_alloc w' _ none)
                        
                        intro w5 hw5
                        intro y0 k0 y1 k1 y2 k2 y3 k3 y4 k4 y5 k5 y6 k6 y7 k7 y8 k8 y9 k9 y10 k10 y11 k11 y12 h12
                        simp only [Act.put, List.setIfInBounds_toArray, List.set_cons_zero, List.set_cons_succ]
                        have e0 : y0 = .slice A17 k c17 := k0
                        subst e0
                        obtain ⟨A12, c12, e12, _, _⟩ := h12.form
                        have e12 : y12 = .slice A12 1 c12 := e12
                        subst e12
                        have HA5 := Lib.hid (HAk.out.kept hw5)
                        have HG5 := Lib.hid (HGk.out.trans hw5)
                        have HS12 : Hid (Sl encU TT w5 (.slice A12 1 c12) [r]) := Lib.hid h12
                        clear k0 k1 k2 k3 k4 k5 k6 k7 k8 k9 k10 k11 h12 hw5
                        refine wpList_apps rfl (.tmp 88) (.tmp 100) rfl (E := encU) el_u64 HA5.out rfl rfl HS12.out (fun _ _ h => h) HLB.out HG5.out.size (fun g hg => Nat.le_trans HG5.out.size hg) ?_
                        intro v6 w6 ha hgr _
                        have HFIN : Hid (Acc encU wo.heap.size 22 (fun g => wo.heap.size ≤ g) w6 v6 ((List.range (k + 1)).map fun j => comeU p.P (L1.map fun x => x[j]?.getD 0) wl z0) ∧ wo.grownBy w6 none) := Lib.hid ⟨by rw [HSN.out]; exact ha, grown_up HG5.out hgr (fun g he => (HA5.out.lt g he).1)⟩
                        clear ha hgr
                        go_wp2_with fail
                        go_roundg m2
                        case measure => omega
                        case rel => exact ⟨k + 1, by omega, by go_num, HFIN⟩
              · have HL0 : Hid (comsE p deals = we ∧ comsL p deals = []) := Lib.hid ⟨hE, HLE.out (by rw [hE]; exact he)⟩
                have hd : (we != 0) = true := by simpa using he
                clear hwe hwl hE hn0 hm he
                generalize deals.length = n at *
                go_wp2_with fail
                refine HM1.out.mono ?_
                rintro e w2 ⟨rfl, hg2⟩
                have HR2 := Lib.hid hg2
                have HB2 := Lib.hid (HBR.out.grown hg2 (by simp))
                have hp2 := HB2.out.prule
                clear hg2 hp1
                go_wp2_with fail
                refine (HW.out _ HR2.out).mono ?_
                rintro e w3 ⟨vw, rfl, hsw, hg3⟩
                have HR3 := Lib.hid (HGG.out.trans (HR2.out.trans hg3))
                clear hg3 hsw hp2
                go_wp2_with fail
                go_ret2
                exact gives_nil HL0.out.1 HL0.out.2 HR3.out
          | succ m =>
            have hjn : (j : Int) < (deals.length : Int) := by omega
            have hjN : j < deals.length := by omega
            obtain ⟨htw, hg, hbd⟩ := HX.out
            have HGr := Lib.hid (HG1.out.trans hg)
            obtain ⟨gd, od, cd, ud, e, _, _, hc0, hc1, hi0, hs0⟩ := (HD.out.kept HGr.out).atD hjN
            obtain ⟨_, _, _, ud', e', q1, q2, q3, hc1', q4, hs0'⟩ := HD.out.atD hjN
            clear q1 q2 q3 q4
            injection e with e1 e2 e3
            subst e1 e3
            injection e' with e1' e6' e7'
            clear e6' e7'
            injection e1' with e1'
            injection e1' with e4 e5
            subst e4 e5
            obtain rfl : ud = ud' := by have := cell_kept hc1' HGr.out (by simp); rw [hc1] at this; injection this
            have HDL : Hid (deals[j].2.length ≤ 100000) := Lib.hid (hb2 _ (List.getElem_mem hjN))
            have HMEM : Hid (badB p deals[j] = true → comsE p deals = 1) := Lib.hid (fun h => HE1.out ⟨_, List.getElem_mem hjN, h⟩)
            have HXJ := Lib.hid (HXB.out deals[j])
            have HSN6 : Hid ((deals.take (j + 1)).map (·.1) = (deals.take j).map (·.1) ++ [deals[j].1]) := Lib.hid (by rw [List.take_succ_eq_append_getElem hjN, List.map_append]; rfl)
            have HSN7 : Hid ((deals.take (j + 1)).map (·.2) = (deals.take j).map (·.2) ++ [deals[j].2]) := Lib.hid (by rw [List.take_succ_eq_append_getElem hjN, List.map_append]; rfl)
            have HLB6 : Hid ((((deals.take j).map (·.1)).length + 1) * 8 ≤ 140737488355328) := Lib.hid (by simp; omega)
            have HLB7 : Hid ((((deals.take j).map (·.2)).length + 1) * 24 ≤ 140737488355328) := Lib.hid (by simp; omega)
            have HBN : Hid (badB p deals[j] = false → OkTo p deals (j + 1)) := Lib.hid (fun hb i h hi => by
              rcases Nat.lt_or_ge i j with h1 | h1
              · exact hbd i h h1
              · obtain rfl : i = j := by omega
                exact hb)
            obtain ⟨d1, hd1⟩ : ∃ y, y = deals[j].1 := ⟨_, rfl⟩
            obtain ⟨d2', hd2⟩ : ∃ y, y = deals[j].2 := ⟨_, rfl⟩
            rw [← hd1] at hc0 HSN6 hi0
            rw [← hd2] at hs0' HSN7 HDL HXJ
            obtain ⟨bb, hbb⟩ : ∃ y, y = badB p deals[j] := ⟨_, rfl⟩
            rw [← hbb] at HMEM HXJ HBN
            clear hbb
            obtain ⟨x6, hx6⟩ : ∃ y, y = (deals.take j).map (·.1) := ⟨_, rfl⟩
            obtain ⟨x7, hx7⟩ : ∃ y, y = (deals.take j).map (·.2) := ⟨_, rfl⟩
            rw [← hx6] at htw HSN6 HLB6
            rw [← hx7] at htw HSN7 HLB7
            have HTW := Lib.hid htw
            have HGG := Lib.hid hg
            have HSD := Lib.hid hs0'
            have HI0 := Lib.hid hi0
            have HBR := Lib.hid (HB1.out.grown hg (by simp))
            obtain ⟨Ad, cd', e7, _, _⟩ := hs0'.form
            subst e7
            clear hs0 hs0' hc1' hd1 hd2 hx6 hx7 htw hg hbd e2 HX hi0
            generalize hnd : deals.length = n at *
            generalize hn2 : d2'.length = n2 at *
            by_cases hnN : (n2 : Int) = (N : Int)
            · have hq : ((n2 : Int) != (N : Int)) = false := by simpa using hnN
              cases hs : d2'.any (shortB p) with
              | true =>
                have h1 : comsE p deals = 1 := HMEM.out (by rw [HXJ.out, hs]; simp)
                have HAN : Hid (d2'.any (fun x => shortB p x) = true) := Lib.hid hs
                clear hs hnN
                have HL0 : Hid (comsE p deals = 1 ∧ comsL p deals = []) := Lib.hid ⟨h1, HLE.out (by rw [h1]; decide)⟩
                clear h1
                go_upto_region 9 with (fail)
                have HBD : Hid (Bk (wr.alloc (.cells #[.int .i64 d1, .slice Ad n2 cd'] 54)).drew wr.heap.size 54 #[.int .i64 d1, .slice Ad n2 cd']) := Lib.hid ((Bk.new wr _ _).grown (grown_drewN' _ 1) (by simp))
                have HBd : Hid (Bk (wr.alloc (.cells #[.int .i64 d1, .slice Ad n2 cd'] 54)).drew w.heap.size 24 p.cells) := Lib.hid ((HBR.out.alloc _).grown (grown_drewN' _ 1) (by simp))
                have HGd : Hid (w.grownBy (wr.alloc (.cells #[.int .i64 d1, .slice Ad n2 cd'] 54)).drew none) := Lib.hid ((HGr.out.trans (World.grownBy_alloc wr _ none)).trans (grown_drewN' _ 1))
                refine wp_region_mono 12 (by kernel_rfl) (by kernel_rfl) ?_
                -- op 0 (slot 39): fieldAddr
                refine MonoR.step (Pv.eq (.pointer (some ⟨wr.heap.size, 1, none⟩))) [] (by kernel_rfl) (fun w' hw' => ?_) ?_
                · refine ask_do rfl fun K hK => ?_
                  go_simp
                  exact hK _ _ rfl rfl (World.grownBy.refl _ none)
                -- op 1 (slot 40): load
                refine MonoR.step (Pv.eq (.slice Ad n2 cd')) [(0, 39)] (by kernel_rfl) (fun w' hw' => ?_) ?_
                · rintro _ rfl
                  refine ask_do rfl fun K hK => ?_
                  have hd0 := (HBD.out.grown hw' (by simp)).cell 0
                  have hd1 := (HBD.out.grown hw' (by simp)).cell 1
                  simp at hd0 hd1
                  have hp := (HBd.out.grown hw' (by simp)).prule
                  go_simp
                  exact hK _ _ rfl rfl (World.grownBy.refl _ none)
                -- op 2 (slot 41): call
                refine MonoR.step (Pv.eq (.int .i64 (n2 : Int))) [(1, 40)] (by kernel_rfl) (fun w' hw' => ?_) ?_
                · rintro _ rfl
                  refine ask_do rfl fun K hK => ?_
                  go_simp
                  exact hK _ _ rfl rfl (World.grownBy.refl _ none)
                -- op 3 (slot 42): load
                refine MonoR.step (Pv.eq (p.v)) [] (by kernel_rfl) (fun w' hw' => ?_) ?_
                · refine ask_do rfl fun K hK => ?_
                  have hd0 := (HBD.out.grown hw' (by simp)).cell 0
                  have hd1 := (HBD.out.grown hw' (by simp)).cell 1
                  simp at hd0 hd1
                  have hp := (HBd.out.grown hw' (by simp)).prule
                  go_simp
                  exact hK _ _ rfl rfl (World.grownBy.refl _ none)
                -- op 4 (slot 43): call
                refine MonoR.step (Pv.eq (.int .i64 (N : Int))) [(3, 42)] (by kernel_rfl) (fun w' hw' => ?_) ?_
                · rintro _ rfl
                  refine ask_do rfl fun K hK => ?_
                  go_simp
                  refine (HSE.out _).mono ?_
                  rintro e w3 ⟨rfl, hg⟩
                  exact hK _ _ rfl rfl hg
                -- op 5 (slot 44): binOp
                refine MonoR.step (Pv.eq (.bool false)) [(2, 41), (4, 43)] (by kernel_rfl) (fun w' hw' => ?_) ?_
                · rintro _ rfl
                  rintro _ rfl
                  refine ask_do rfl fun K hK => ?_
                  go_simp
                  exact hK _ _ rfl rfl (World.grownBy.refl _ none)
                -- op 6 (slot 45): move
                refine MonoR.step (Pv.eq (.bool false)) [(5, 44)] (by kernel_rfl) (fun w' hw' => ?_) ?_
                · rintro _ rfl
                  refine ask_do rfl fun K hK => ?_
                  go_simp
                  exact hK _ _ rfl rfl (World.grownBy.refl _ none)
                -- op 7 (slot 46): fieldAddr [(6, 'false')]
                refine MonoR.step (Pv.eq (.pointer (some ⟨wr.heap.size, 1, none⟩))) [(6, 45)] (by kernel_rfl) (fun w' hw' => ?_) ?_
                · rintro _ rfl
                  refine ask_do rfl fun K hK => ?_
                  go_simp
                  exact hK _ _ rfl rfl (World.grownBy.refl _ none)
                -- op 8 (slot 47): load [(6, 'false')]
                refine MonoR.step (Pv.eq (.slice Ad n2 cd')) [(6, 45), (7, 46)] (by kernel_rfl) (fun w' hw' => ?_) ?_
                · rintro _ rfl
                  rintro _ rfl
                  refine ask_do rfl fun K hK => ?_
                  have hd0 := (HBD.out.grown hw' (by simp)).cell 0
                  have hd1 := (HBD.out.grown hw' (by simp)).cell 1
                  simp at hd0 hd1
                  have hp := (HBd.out.grown hw' (by simp)).prule
                  go_simp
                  exact hK _ _ rfl rfl (World.grownBy.refl _ none)
                -- op 9 (slot 48): move [(6, 'false')]
                refine MonoR.step (Pv.eq (.func (.func 55) #[] #[.pointer (some ⟨w.heap.size, 0, none⟩)])) [(6, 45)] (by kernel_rfl) (fun w' hw' => ?_) ?_
                · rintro _ rfl
                  refine ask_do rfl fun K hK => ?_
                  go_simp
                  exact hK _ _ rfl rfl (World.grownBy.refl _ none)
                -- op 10 (slot 49): call [(6, 'false')]
                refine MonoR.step (Pv.eq (.bool true)) [(6, 45), (8, 47), (9, 48)] (by kernel_rfl) (fun w' hw' => ?_) ?_
                · rintro _ rfl
                  rintro _ rfl
                  rintro _ rfl
                  refine ask_do rfl fun K hK => ?_
                  go_simp
                  refine (HCS.out _ _ _ HSD.out (HGd.out.trans hw') (HBd.out.grown hw' (by simp))).mono ?_
                  rintro e w3 ⟨rfl, hg⟩
                  rw [HAN.out]
                  exact hK _ _ rfl rfl hg
                -- op 11 (slot 50): pick
                refine MonoR.step (Pv.eq (.bool true)) [(6, 45), (10, 49)] (by kernel_rfl) (fun w' hw' => ?_) ?_
                · rintro _ rfl
                  rintro _ rfl
                  refine ask_do rfl fun K hK => ?_
                  go_simp
                  exact hK _ _ rfl rfl (World.grownBy.refl _ none)
                
                intro w3 hw3
                intro y0 k0 y1 k1 y2 k2 y3 k3 y4 k4 y5 k5 y6 k6 y7 k7 y8 k8 y9 k9 y10 k10
                rintro _ rfl
                have HW3 := Lib.hid hw3
                clear hw3
                refine wpList_nil ?_
                simp only [Act.put, List.setIfInBounds_toArray, List.set_cons_zero, List.set_cons_succ]
                clear k0 k1 k2 k3 k4 k5 k6 k7 k8 k9 k10
                have HG4 : Hid (w.grownBy w3 none) := Lib.hid (HGd.out.trans HW3.out)
                go_wp2_with fail
                go_ret2
                exact gives_nil HL0.out.1 HL0.out.2 HG4.out
              | false =>
                have HAN : Hid (d2'.any (fun x => shortB p x) = false) := Lib.hid hs
                have HBF := Lib.hid (HBN.out (by rw [HXJ.out, hs]; simp [hnN]))
                have HNN := Lib.hid hnN
                have HSS := Lib.hid hs
                clear hs hnN
                go_upto_region 9 with (fail)
                have HBD : Hid (Bk (wr.alloc (.cells #[.int .i64 d1, .slice Ad n2 cd'] 54)).drew wr.heap.size 54 #[.int .i64 d1, .slice Ad n2 cd']) := Lib.hid ((Bk.new wr _ _).grown (grown_drewN' _ 1) (by simp))
                have HBd : Hid (Bk (wr.alloc (.cells #[.int .i64 d1, .slice Ad n2 cd'] 54)).drew w.heap.size 24 p.cells) := Lib.hid ((HBR.out.alloc _).grown (grown_drewN' _ 1) (by simp))
                have HGd : Hid (w.grownBy (wr.alloc (.cells #[.int .i64 d1, .slice Ad n2 cd'] 54)).drew none) := Lib.hid ((HGr.out.trans (World.grownBy_alloc wr _ none)).trans (grown_drewN' _ 1))
                refine wp_region_mono 12 (by kernel_rfl) (by kernel_rfl) ?_
                -- op 0 (slot 39): fieldAddr
                refine MonoR.step (Pv.eq (.pointer (some ⟨wr.heap.size, 1, none⟩))) [] (by kernel_rfl) (fun w' hw' => ?_) ?_
                · refine ask_do rfl fun K hK => ?_
                  go_simp
                  exact hK _ _ rfl rfl (World.grownBy.refl _ none)
                -- op 1 (slot 40): load
                refine MonoR.step (Pv.eq (.slice Ad n2 cd')) [(0, 39)] (by kernel_rfl) (fun w' hw' => ?_) ?_
                · rintro _ rfl
                  refine ask_do rfl fun K hK => ?_
                  have hd0 := (HBD.out.grown hw' (by simp)).cell 0
                  have hd1 := (HBD.out.grown hw' (by simp)).cell 1
                  simp at hd0 hd1
                  have hp := (HBd.out.grown hw' (by simp)).prule
                  go_simp
                  exact hK _ _ rfl rfl (World.grownBy.refl _ none)
                -- op 2 (slot 41): call
                refine MonoR.step (Pv.eq (.int .i64 (n2 : Int))) [(1, 40)] (by kernel_rfl) (fun w' hw' => ?_) ?_
                · rintro _ rfl
                  refine ask_do rfl fun K hK => ?_
                  go_simp
                  exact hK _ _ rfl rfl (World.grownBy.refl _ none)
                -- op 3 (slot 42): load
                refine MonoR.step (Pv.eq (p.v)) [] (by kernel_rfl) (fun w' hw' => ?_) ?_
                · refine ask_do rfl fun K hK => ?_
                  have hd0 := (HBD.out.grown hw' (by simp)).cell 0
                  have hd1 := (HBD.out.grown hw' (by simp)).cell 1
                  simp at hd0 hd1
                  have hp := (HBd.out.grown hw' (by simp)).prule
                  go_simp
                  exact hK _ _ rfl rfl (World.grownBy.refl _ none)
                -- op 4 (slot 43): call
                refine MonoR.step (Pv.eq (.int .i64 (N : Int))) [(3, 42)] (by kernel_rfl) (fun w' hw' => ?_) ?_
                · rintro _ rfl
                  refine ask_do rfl fun K hK => ?_
                  go_simp
                  refine (HSE.out _).mono ?_
                  rintro e w3 ⟨rfl, hg⟩
                  exact hK _ _ rfl rfl hg
                -- op 5 (slot 44): binOp
                refine MonoR.step (Pv.eq (.bool false)) [(2, 41), (4, 43)] (by kernel_rfl) (fun w' hw' => ?_) ?_
                · rintro _ rfl
                  rintro _ rfl
                  refine ask_do rfl fun K hK => ?_
                  go_simp
                  exact hK _ _ rfl rfl (World.grownBy.refl _ none)
                -- op 6 (slot 45): move
                refine MonoR.step (Pv.eq (.bool false)) [(5, 44)] (by kernel_rfl) (fun w' hw' => ?_) ?_
                · rintro _ rfl
                  refine ask_do rfl fun K hK => ?_
                  go_simp
                  exact hK _ _ rfl rfl (World.grownBy.refl _ none)
                -- op 7 (slot 46): fieldAddr [(6, 'false')]
                refine MonoR.step (Pv.eq (.pointer (some ⟨wr.heap.size, 1, none⟩))) [(6, 45)] (by kernel_rfl) (fun w' hw' => ?_) ?_
                · rintro _ rfl
                  refine ask_do rfl fun K hK => ?_
                  go_simp
                  exact hK _ _ rfl rfl (World.grownBy.refl _ none)
                -- op 8 (slot 47): load [(6, 'false')]
                refine MonoR.step (Pv.eq (.slice Ad n2 cd')) [(6, 45), (7, 46)] (by kernel_rfl) (fun w' hw' => ?_) ?_
                · rintro _ rfl
                  rintro _ rfl
                  refine ask_do rfl fun K hK => ?_
                  have hd0 := (HBD.out.grown hw' (by simp)).cell 0
                  have hd1 := (HBD.out.grown hw' (by simp)).cell 1
                  simp at hd0 hd1
                  have hp := (HBd.out.grown hw' (by simp)).prule
                  go_simp
                  exact hK _ _ rfl rfl (World.grownBy.refl _ none)
                -- op 9 (slot 48): move [(6, 'false')]
                refine MonoR.step (Pv.eq (.func (.func 55) #[] #[.pointer (some ⟨w.heap.size, 0, none⟩)])) [(6, 45)] (by kernel_rfl) (fun w' hw' => ?_) ?_
                · rintro _ rfl
                  refine ask_do rfl fun K hK => ?_
                  go_simp
                  exact hK _ _ rfl rfl (World.grownBy.refl _ none)
                -- op 10 (slot 49): call [(6, 'false')]
                refine MonoR.step (Pv.eq (.bool false)) [(6, 45), (8, 47), (9, 48)] (by kernel_rfl) (fun w' hw' => ?_) ?_
                · rintro _ rfl
                  rintro _ rfl
                  rintro _ rfl
                  refine ask_do rfl fun K hK => ?_
                  go_simp
                  refine (HCS.out _ _ _ HSD.out (HGd.out.trans hw') (HBd.out.grown hw' (by simp))).mono ?_
                  rintro e w3 ⟨rfl, hg⟩
                  rw [HAN.out]
                  exact hK _ _ rfl rfl hg
                -- op 11 (slot 50): pick
                refine MonoR.step (Pv.eq (.bool false)) [(6, 45), (10, 49)] (by kernel_rfl) (fun w' hw' => ?_) ?_
                · rintro _ rfl
                  rintro _ rfl
                  refine ask_do rfl fun K hK => ?_
                  go_simp
                  exact hK _ _ rfl rfl (World.grownBy.refl _ none)
                
                intro w3 hw3
                intro y0 k0 y1 k1 y2 k2 y3 k3 y4 k4 y5 k5 y6 k6 y7 k7 y8 k8 y9 k9 y10 k10
                rintro _ rfl
                have HW3 := Lib.hid hw3
                clear hw3
                refine wpList_nil ?_
                simp only [Act.put, List.setIfInBounds_toArray, List.set_cons_zero, List.set_cons_succ]
                clear k0 k1 k2 k3 k4 k5 k6 k7 k8 k9 k10
                have HW4 : Hid (wr.grownBy w3.drew none) := Lib.hid (((World.grownBy_alloc wr _ none).trans (grown_drewN' _ 1)).trans (HW3.out.trans (grown_drewN' w3 1)))
                have HTWd := Lib.hid (HTW.out.kept HW4.out)
                have HGGd : Hid (w1.grownBy w3.drew none) := Lib.hid (HGG.out.trans HW4.out)
                have HGwd : Hid (w.grownBy w3.drew none) := Lib.hid (HG1.out.trans HGGd.out)
                have HBDd : Hid (Bk w3.drew wr.heap.size 54 #[.int .i64 d1, .slice Ad n2 cd']) := Lib.hid (HBD.out.grown (HW3.out.trans (grown_drewN' w3 1)) (by simp))
                have hq0 := HBDd.out.cell 0
                have hq1 := HBDd.out.cell 1
                simp at hq0 hq1
                have HNE6 : Hid (some wr.heap.size ≠ u6.ownBlock) := Lib.hid (fun e => by have := (HTW.out.fst.lt _ e.symm).2; omega)
                have HNE7 : Hid (some wr.heap.size ≠ u7.ownBlock) := Lib.hid (fun e => by have := (HTW.out.snd.lt _ e.symm).2; omega)
                have HSZ : Hid (∀ w', w3.drew.grownBy w' none → w1.heap.size ≤ w'.heap.size) := Lib.hid (fun w' h => (HGGd.out.trans h).size)
                have HREP7 : Hid (∀ (w' : World) (v6 : Value), w1.grownBy w' none → (encS (encS encU)).rep (fun g => (g < w1.heap.size ∨ some g ≠ v6.ownBlock) ∧ some g ≠ u7.ownBlock) w' [.slice Ad n2 cd'] d2') := Lib.hid (fun w' v6 h => by
                  have hb := HSD.out.bounded
                  have h1 := hb.kept (HG1.out.trans h)
                  exact ⟨_, rfl, h1.more fun g _ hx => ⟨.inl (Nat.lt_of_lt_of_le hx.2 HG1.out.size), fun e => by have h7 := (HTW.out.snd.lt g e.symm).1; have h8 := hx.2; have h9 := HG1.out.size; omega⟩⟩)
                have GA : Hid (w3.drew.grownBy (w3.drew.alloc (.cells #[.int .i64 d1] 3)) none) := Lib.hid (World.grownBy_alloc _ _ none)
                have GB : Hid (w3.drew.grownBy ((w3.drew.alloc (.cells #[.int .i64 d1] 3)).alloc (.cells #[.slice Ad n2 cd'] 35)) none) := Lib.hid grown_two
                have GC : Hid (w3.drew.grownBy ((w3.drew.alloc (.cells #[.slice Ad n2 cd'] 35)).alloc (.cells #[.int .i64 d1] 3)) none) := Lib.hid grown_two
                have B6A : Hid (∀ j v, [Value.int .i64 d1][j]? = some v → World.cell? (w3.drew.alloc (.cells #[.int .i64 d1] 3)) ⟨w3.heap.size, j, none⟩ = some v) := Lib.hid (Bk.one (t := 3) (Bk.new w3.drew _ _))
                have B6B : Hid (∀ j v, [Value.int .i64 d1][j]? = some v → World.cell? ((w3.drew.alloc (.cells #[.int .i64 d1] 3)).alloc (.cells #[.slice Ad n2 cd'] 35)) ⟨w3.heap.size, j, none⟩ = some v) := Lib.hid (Bk.one (t := 3) ((Bk.new w3.drew _ _).alloc _))
                have B6C : Hid (∀ j v, [Value.int .i64 d1][j]? = some v → World.cell? ((w3.drew.alloc (.cells #[.slice Ad n2 cd'] 35)).alloc (.cells #[.int .i64 d1] 3)) ⟨w3.heap.size + 1, j, none⟩ = some v) := Lib.hid (by
                  have h := Bk.new (w3.drew.alloc (.cells #[.slice Ad n2 cd'] 35)) 3 #[.int .i64 d1]
                  rw [World.size_alloc] at h
                  exact Bk.one h)
                have B7B : Hid (Bk ((w3.drew.alloc (.cells #[.int .i64 d1] 3)).alloc (.cells #[.slice Ad n2 cd'] 35)) (w3.heap.size + 1) 35 #[.slice Ad n2 cd']) := Lib.hid (by
                  have h := Bk.new (w3.drew.alloc (.cells #[.int .i64 d1] 3)) 35 #[.slice Ad n2 cd']
                  rw [World.size_alloc] at h
                  exact h)
                have B7C : Hid (Bk ((w3.drew.alloc (.cells #[.slice Ad n2 cd'] 35)).alloc (.cells #[.int .i64 d1] 3)) w3.heap.size 35 #[.slice Ad n2 cd']) := Lib.hid ((Bk.new w3.drew _ _).alloc _)
                have HNB : Hid (some (w3.heap.size + 1) ≠ u6.ownBlock ∧ some w3.heap.size ≠ u6.ownBlock) := Lib.hid ⟨fun e => by have h1 := (HTWd.out.fst.lt _ e.symm).2; change _ < w3.heap.size at h1; omega, fun e => by have h1 := (HTWd.out.fst.lt _ e.symm).2; change _ < w3.heap.size at h1; omega⟩
                go_wp2_with fail
                go_region_held3 (fun w' => w'.cell? ⟨wr.heap.size, 0, none⟩ = some (.int .i64 d1) ∧ w'.cell? ⟨wr.heap.size, 1, none⟩ = some (.slice Ad n2 cd')) (first | (exact ⟨by assumption, by assumption⟩) | go_keep)
                  (first
                    | (refine step_pushAt rfl (.tmp 51) (.tmp 54) rfl (E := encI) (y := d1) el_int (HTWd.out.kept GA.out).fst rfl rfl ⟨rfl, HI0.out⟩ B6A.out HLB6.out (HSZ.out _ GA.out) ((HTWd.out.kept GA.out).lt7 (HSZ.out _ GA.out)) ?_; intro v3 w4 ha hgr hm; have HT4 := Lib.hid ((HTWd.out.kept GA.out).one ha hgr hm); have HG4 := Lib.hid (grown_up (HGGd.out.trans GA.out) hgr (fun g he => ((HTWd.out.kept GA.out).fst.lt g he).1)); have hB4 := (HBDd.out.grown GA.out (by simp)).grown hgr HNE6.out; have hq0 := hB4.cell 0; have hq1 := hB4.cell 1; simp at hq0 hq1; have HB4 := Lib.hid hB4; clear ha hgr hm hB4)
                    | (refine step_pushAt rfl (.tmp 51) (.tmp 54) rfl (E := encI) (y := d1) el_int (HTWd.out.kept GB.out).fst rfl rfl ⟨rfl, HI0.out⟩ B6B.out HLB6.out (HSZ.out _ GB.out) ((HTWd.out.kept GB.out).lt7 (HSZ.out _ GB.out)) ?_; intro v3 w4 ha hgr hm; have HT4 := Lib.hid ((HTWd.out.kept GB.out).one ha hgr hm); have HG4 := Lib.hid (grown_up (HGGd.out.trans GB.out) hgr (fun g he => ((HTWd.out.kept GB.out).fst.lt g he).1)); have hB4 := (HBDd.out.grown GB.out (by simp)).grown hgr HNE6.out; have hq0 := hB4.cell 0; have hq1 := hB4.cell 1; simp at hq0 hq1; have HB4 := Lib.hid hB4; have HC4 := Lib.hid (Bk.one (B7B.out.grown hgr HNB.out.1)); clear ha hgr hm hB4)
                    | (refine step_pushAt rfl (.tmp 51) (.tmp 54) rfl (E := encI) (y := d1) el_int (HTWd.out.kept GC.out).fst rfl rfl ⟨rfl, HI0.out⟩ B6C.out HLB6.out (HSZ.out _ GC.out) ((HTWd.out.kept GC.out).lt7 (HSZ.out _ GC.out)) ?_; intro v3 w4 ha hgr hm; have HT4 := Lib.hid ((HTWd.out.kept GC.out).one ha hgr hm); have HG4 := Lib.hid (grown_up (HGGd.out.trans GC.out) hgr (fun g he => ((HTWd.out.kept GC.out).fst.lt g he).1)); have hB4 := (HBDd.out.grown GC.out (by simp)).grown hgr HNE6.out; have hq0 := hB4.cell 0; have hq1 := hB4.cell 1; simp at hq0 hq1; have HB4 := Lib.hid hB4; have HC4 := Lib.hid (Bk.one (B7C.out.grown hgr HNB.out.2)); clear ha hgr hm hB4)
                    | (refine step_pushAt rfl (.tmp 56) (.tmp 59) rfl (E := encS (encS encU)) (y := d2') el_rows (HT4.out.kept (World.grownBy_alloc w4 (.cells #[.slice Ad n2 cd'] 35) none)).snd rfl rfl (HREP7.out _ _ (HG4.out.trans (World.grownBy_alloc w4 (.cells #[.slice Ad n2 cd'] 35) none))) (Bk.one (Bk.new w4 35 _)) HLB7.out (HG4.out.trans (World.grownBy_alloc w4 (.cells #[.slice Ad n2 cd'] 35) none)).size (HT4.out.kept (World.grownBy_alloc w4 (.cells #[.slice Ad n2 cd'] 35) none)).lt6 ?_; intro v5 w5 ha hgr hm; have HT5 := Lib.hid ((HT4.out.kept (World.grownBy_alloc w4 (.cells #[.slice Ad n2 cd'] 35) none)).two ha hgr hm); have HG5 := Lib.hid (grown_up (HG4.out.trans (World.grownBy_alloc w4 (.cells #[.slice Ad n2 cd'] 35) none)) hgr (fun g he => ((HT4.out.kept (World.grownBy_alloc w4 (.cells #[.slice Ad n2 cd'] 35) none)).snd.lt g he).1)); have hB5 := (HB4.out.alloc _).grown hgr HNE7.out; have hr0 := hB5.cell 0; have hr1 := hB5.cell 1; simp at hr0 hr1; clear ha hgr hm hB5)
                    | (refine step_pushAt rfl (.tmp 56) (.tmp 59) rfl (E := encS (encS encU)) (y := d2') el_rows HT4.out.snd rfl rfl (HREP7.out _ _ HG4.out) HC4.out HLB7.out HG4.out.size HT4.out.lt6 ?_; intro v5 w5 ha hgr hm; have HT5 := Lib.hid (HT4.out.two ha hgr hm); have HG5 := Lib.hid (grown_up HG4.out hgr (fun g he => (HT4.out.snd.lt g he).1)); have hB5 := HB4.out.grown hgr HNE7.out; have hr0 := hB5.cell 0; have hr1 := hB5.cell 1; simp at hr0 hr1; clear ha hgr hm hB5)
                    )
                all_goals
                  have HFIN : Hid (Two w1.heap.size w5 v3 v5 ((deals.take (j + 1)).map (·.1)) ((deals.take (j + 1)).map (·.2)) ∧ w1.grownBy w5 none ∧ OkTo p deals (j + 1)) := Lib.hid ⟨by rw [HSN6.out, HSN7.out]; exact HT5.out, HG5.out, HBF.out⟩
                  go_wp2_with fail
                  go_roundg m
                  case measure => omega
                  case rel => exact ⟨j + 1, by omega, by go_num, HFIN⟩
            · have hq : ((n2 : Int) != (N : Int)) = true := by simpa using hnN
              have h1 : comsE p deals = 1 := HMEM.out (by rw [HXJ.out]; simp [hnN])
              clear hnN
              have HL0 : Hid (comsE p deals = 1 ∧ comsL p deals = []) := Lib.hid ⟨h1, HLE.out (by rw [h1]; decide)⟩
              clear h1
              go_upto_region 9 with (fail)
              have HBD : Hid (Bk (wr.alloc (.cells #[.int .i64 d1, .slice Ad n2 cd'] 54)).drew wr.heap.size 54 #[.int .i64 d1, .slice Ad n2 cd']) := Lib.hid ((Bk.new wr _ _).grown (grown_drewN' _ 1) (by simp))
              have HBd : Hid (Bk (wr.alloc (.cells #[.int .i64 d1, .slice Ad n2 cd'] 54)).drew w.heap.size 24 p.cells) := Lib.hid ((HBR.out.alloc _).grown (grown_drewN' _ 1) (by simp))
              have HGd : Hid (w.grownBy (wr.alloc (.cells #[.int .i64 d1, .slice Ad n2 cd'] 54)).drew none) := Lib.hid ((HGr.out.trans (World.grownBy_alloc wr _ none)).trans (grown_drewN' _ 1))
              refine wp_region_mono 12 (by kernel_rfl) (by kernel_rfl) ?_
              -- op 0 (slot 39): fieldAddr
              refine MonoR.step (Pv.eq (.pointer (some ⟨wr.heap.size, 1, none⟩))) [] (by kernel_rfl) (fun w' hw' => ?_) ?_
              · refine ask_do rfl fun K hK => ?_
                go_simp
                exact hK _ _ rfl rfl (World.grownBy.refl _ none)
              -- op 1 (slot 40): load
              refine MonoR.step (Pv.eq (.slice Ad n2 cd')) [(0, 39)] (by kernel_rfl) (fun w' hw' => ?_) ?_
              · rintro _ rfl
                refine ask_do rfl fun K hK => ?_
                have hd0 := (HBD.out.grown hw' (by simp)).cell 0
                have hd1 := (HBD.out.grown hw' (by simp)).cell 1
                simp at hd0 hd1
                have hp := (HBd.out.grown hw' (by simp)).prule
                go_simp
                exact hK _ _ rfl rfl (World.grownBy.refl _ none)
              -- op 2 (slot 41): call
              refine MonoR.step (Pv.eq (.int .i64 (n2 : Int))) [(1, 40)] (by kernel_rfl) (fun w' hw' => ?_) ?_
              · rintro _ rfl
                refine ask_do rfl fun K hK => ?_
                go_simp
                exact hK _ _ rfl rfl (World.grownBy.refl _ none)
              -- op 3 (slot 42): load
              refine MonoR.step (Pv.eq (p.v)) [] (by kernel_rfl) (fun w' hw' => ?_) ?_
              · refine ask_do rfl fun K hK => ?_
                have hd0 := (HBD.out.grown hw' (by simp)).cell 0
                have hd1 := (HBD.out.grown hw' (by simp)).cell 1
                simp at hd0 hd1
                have hp := (HBd.out.grown hw' (by simp)).prule
                go_simp
                exact hK _ _ rfl rfl (World.grownBy.refl _ none)
              -- op 4 (slot 43): call
              refine MonoR.step (Pv.eq (.int .i64 (N : Int))) [(3, 42)] (by kernel_rfl) (fun w' hw' => ?_) ?_
              · rintro _ rfl
                refine ask_do rfl fun K hK => ?_
                go_simp
                refine (HSE.out _).mono ?_
                rintro e w3 ⟨rfl, hg⟩
                exact hK _ _ rfl rfl hg
              -- op 5 (slot 44): binOp
              refine MonoR.step (Pv.eq (.bool true)) [(2, 41), (4, 43)] (by kernel_rfl) (fun w' hw' => ?_) ?_
              · rintro _ rfl
                rintro _ rfl
                refine ask_do rfl fun K hK => ?_
                go_simp
                exact hK _ _ rfl rfl (World.grownBy.refl _ none)
              -- op 6 (slot 45): move
              refine MonoR.step (Pv.eq (.bool true)) [(5, 44)] (by kernel_rfl) (fun w' hw' => ?_) ?_
              · rintro _ rfl
                refine ask_do rfl fun K hK => ?_
                go_simp
                exact hK _ _ rfl rfl (World.grownBy.refl _ none)
              -- op 7 (slot 46): fieldAddr [(6, 'false')]
              refine MonoR.step (Pv.eq (undef)) [(6, 45)] (by kernel_rfl) (fun w' hw' => ?_) ?_
              · rintro _ rfl
                exact ask_skip rfl rfl rfl
              -- op 8 (slot 47): load [(6, 'false')]
              refine MonoR.step (Pv.eq (undef)) [(6, 45), (7, 46)] (by kernel_rfl) (fun w' hw' => ?_) ?_
              · rintro _ rfl
                rintro _ rfl
                exact ask_skip rfl rfl rfl
              -- op 9 (slot 48): move [(6, 'false')]
              refine MonoR.step (Pv.eq (undef)) [(6, 45)] (by kernel_rfl) (fun w' hw' => ?_) ?_
              · rintro _ rfl
                exact ask_skip rfl rfl rfl
              -- op 10 (slot 49): call [(6, 'false')]
              refine MonoR.step (Pv.eq (undef)) [(6, 45), (8, 47), (9, 48)] (by kernel_rfl) (fun w' hw' => ?_) ?_
              · rintro _ rfl
                rintro _ rfl
                rintro _ rfl
                exact ask_skip rfl rfl rfl
              -- op 11 (slot 50): pick
              refine MonoR.step (Pv.eq (.bool true)) [(6, 45), (10, 49)] (by kernel_rfl) (fun w' hw' => ?_) ?_
              · rintro _ rfl
                rintro _ rfl
                refine ask_do rfl fun K hK => ?_
                go_simp
                exact hK _ _ rfl rfl (World.grownBy.refl _ none)
              
              intro w3 hw3
              intro y0 k0 y1 k1 y2 k2 y3 k3 y4 k4 y5 k5 y6 k6 y7 k7 y8 k8 y9 k9 y10 k10
              rintro _ rfl
              have HW3 := Lib.hid hw3
              clear hw3
              refine wpList_nil ?_
              simp only [Act.put, List.setIfInBounds_toArray, List.set_cons_zero, List.set_cons_succ]
              clear k0 k1 k2 k3 k4 k5 k6 k7 k8 k9 k10
              have HG4 : Hid (w.grownBy w3 none) := Lib.hid (HGd.out.trans HW3.out)
              go_wp2_with fail
              go_ret2
              exact gives_nil HL0.out.1 HL0.out.2 HG4.out
      · have h1 : comsE p deals = 1 := by unfold comsE; rw [if_neg]; simp; omega
        have HL0 : Hid (comsL p deals = []) := Lib.hid (by simp [comsL, h1])
        have d2 : decide (p.T > 2) = true := by simp; omega
        rw [h1]
        clear h1 b1 HD ht ht2
        generalize deals.length = n at *
        go_enter Tryz.func13, Tryz.ntmps13
        go_wp2_with fail
        refine (HS1.out _).mono ?_
        rintro e w1 ⟨rfl, hg1⟩
        have HG1 := Lib.hid (HG0.out.trans hg1)
        have hp1 := (HB.out.grown hg1 (by simp)).prule
        clear hg1
        go_wp2_with fail
        go_ret2
        exact ⟨_, rfl, by rw [HL0.out]; exact Sl.nil _ _ _, HG1.out⟩
end Go.Proofs.YtiimippmihkgcaaGreatDoor

namespace Go.Proofs.YtiimippmihkgcaaGreatDoor
open Go Go.RowKit

/-- A tape in block g: what its k-th draw below q is, and how it lies when k were made; bl: the blocks that it has. -/
structure Tp (g : Nat) (q : Int) (dr : Nat → Int) (TI : Nat → World → Prop) (bl : Nat → Prop) (most : Nat) : Prop where
  own : bl g
  old : ∀ {k w b}, TI k w → bl b → b < w.heap.size
  val : ∀ k, U64 (dr k)
  keep : ∀ {k w w'} {row : Option Nat}, TI k w → w.grownBy w' row → (∀ b, row = some b → ¬ bl b) → TI k w'
  next : ∀ {k w}, k < most → TI k w → Calls Tryz.prog 41 #[.pointer (some ⟨g, 0, none⟩), .int .u64 q] w fun e w' => e = .returned (.int .u64 (dr k)) ∧ TI (k + 1) w' ∧ w.grownBy w' (some g)
def seedS (q s : Int) : Nat → Int
  | 0 => s
  | k + 1 => drawS q (seedS q s k)
theorem seedS_U64 (q s : Int) (hs : U64 s) : ∀ k, U64 (seedS q s k)
  | 0 => hs
  | k + 1 => drawS_U64 q _ (seedS_U64 q s hs k)
/-- A tape of a seed. -/
theorem tp_own (g : Nat) (q s : Int) (hs : U64 s) (hq : U64 q) : Tp g q (fun k => drawX q (seedS q s k)) (fun k w => Bk w g 82 #[.int .u64 (seedS q s k), .slice none 0 0, .int .i64 k]) (fun b => b = g) 1000000 where
  own := rfl
  old := fun h e => by subst e; exact h.lt
  val := fun k => drawX_U64 q _ hq
  keep := fun h hg hr => h.grown hg (fun e => hr g e.symm rfl)
  next := fun {k w} hk h => (next_own g none 0 (seedS q s k) k q w (seedS_U64 q s hs k) hq (by omega) (by omega) h).mono fun _ _ ⟨h1, h2, h3⟩ => ⟨h1, by simpa [seedS] using h2, h3⟩
set_option maxHeartbeats 400000 in
theorem new20_any (s : Int) (w : World) :
    Calls Tryz.prog 7 #[.int .u64 s] w fun e w' => e = .returned (.pointer (some ⟨w.heap.size, 0, none⟩)) ∧ w' = w.alloc (.cells #[.int .u64 s, .slice none 0 0, .int .i64 0] 82) := by
  go_enter Tryz.func7, Tryz.ntmps7
  go_wp2_with fail
  go_ret
  exact ⟨rfl, rfl⟩
theorem dsecrets_any (p : Par) (w : World) :
    Calls Tryz.prog 40 #[p.v] w fun e w' => e = .returned (.int .i64 (secretsI p)) ∧ w.grownBy w' none := by
  go_enter Tryz.func40, Tryz.ntmps40
  go_wp2
  go_ret
  exact ⟨rfl, World.grownBy_alloc w _ none⟩
theorem Acc.made1 (w : World) (e : TypeId) {B : Nat} (hB : B ≤ w.heap.size) (X : Nat → Prop) (hX : X w.heap.size) (z : Int) (hz : U64 z) : Acc encU B e X (w.alloc (.cells #[.int .u64 z] e)) (.slice (some ⟨w.heap.size, 0, none⟩) 1 1) [z] :=
  ⟨fun g hg => by simp [Value.ownBlock] at hg; subst hg; exact hX, [[.int .u64 z]], rfl, fun i hi hi' => by
    obtain rfl : i = 0 := by simp at hi; omega
    exact ⟨rfl, hz⟩, ⟨by simp [encU], .inr ⟨w.heap.size, 1, #[.int .u64 z], rfl, hB, heap_alloc_new w _, Nat.le_refl _, by decide, rfl, by simp [encU]⟩⟩⟩
/-- A number, modulo q, with n draws behind it, the first of them the k-th. -/
def behI (x q : Int) (dr : Nat → Int) (n k : Nat) : List Int := x % q :: (List.range n).map fun j => dr (k + j)
theorem behI_succ (x q : Int) (dr : Nat → Int) (n k : Nat) : behI x q dr (n + 1) k = behI x q dr n k ++ [dr (k + n)] := by
  simp [behI, List.range_succ]
theorem behI_len (x q : Int) (dr : Nat → Int) (n k : Nat) : (behI x q dr n k).length = n + 1 := by simp [behI]
set_option maxHeartbeats 1000000 in
theorem behind_any {g : Nat} {q : Int} {dr : Nat → Int} {TI : Nat → World → Prop} {bl : Nat → Prop} {most : Nat} (hT : Tp g q dr TI bl most) (x : Int) (n k : Nat) (w : World) (hx : U64 x) (hq : U64 q) (hq0 : 0 < q) (hn : n ≤ 1000) (hk : k + n ≤ most) (hI : TI k w) :
    Calls Tryz.prog 42 #[.int .u64 x, .int .i64 n, .int .u64 q, .func (.func 41) #[.pointer (some ⟨g, 0, none⟩)] #[]] w fun e w' => ∃ v, e = .returned v ∧ Sl encU (fun b => w.heap.size ≤ b) w' v (behI x q dr n k) ∧ TI (k + n) w' ∧ w.grownBy w' (some g) := by
  have HT := Lib.hid hT
  obtain ⟨q0, q1⟩ := hq
  obtain ⟨x0, x1⟩ := hx
  have hqz : (q == 0) = false := by simp; omega
  have hqz2 : ¬ q = 0 := by omega
  have hmod : Int.tmod x q = x % q := Int.tmod_eq_emod_of_nonneg x0
  obtain ⟨z, hz⟩ : ∃ y, y = x % q := ⟨_, rfl⟩
  have HZ : Hid (U64 z) := Lib.hid (by rw [hz]; exact ⟨Int.emod_nonneg _ (by omega), Int.lt_trans (Int.emod_lt_of_pos _ hq0) (by omega)⟩)
  have hzw : IntKind.u64.wrap z = z := IntWalk.u64_in _ (by have := HZ.out; obtain ⟨a, b⟩ := this; omega)
  have HGW : Hid (g < w.heap.size) := Lib.hid (hT.old hI hT.own)
  obtain ⟨w1, hw1⟩ : ∃ y, y = w.alloc (Obj.cells #[.int .u64 z] 22) := ⟨_, rfl⟩
  have HG1 : Hid (w.grownBy w1 none) := Lib.hid (by rw [hw1]; exact World.grownBy_alloc w _ none)
  have HA1 : Hid (Acc encU w.heap.size 22 (fun b => w.heap.size ≤ b) w1 (.slice (some ⟨w.heap.size, 0, none⟩) 1 1) (behI x q dr 0 k)) := Lib.hid (by
    rw [hw1, show behI x q dr 0 k = [z] by simp [behI, hz]]
    exact Acc.made1 w _ (Nat.le_refl _) _ (Nat.le_refl _) z HZ.out)
  have HI1 : Hid (TI k w1) := Lib.hid (hT.keep hI HG1.out (by simp))
  have HOB : Hid (∀ b, bl b → b < w.heap.size) := Lib.hid (fun b hb => hT.old hI hb)
  have e1 : x % q = z := hz.symm
  rw [e1] at hmod
  clear hT hI hz
  go_enter Tryz.func42, Tryz.ntmps42
  go_wp2_with fail
  rw [← hw1]
  clear hw1
  go_loopg [9, 15] n (fun gk s9 s15 wx => ∃ j : Nat, j + gk = n ∧ s15 = .int .i64 j ∧ Hid (Acc encU w.heap.size 22 (fun b => w.heap.size ≤ b) wx s9 (behI x q dr j k) ∧ TI (k + j) wx ∧ w.grownBy wx (some g)))
  case atStart => exact ⟨0, by omega, rfl, Lib.hid ⟨HA1.out, HI1.out, HG1.out.but _⟩⟩
  case round =>
    obtain ⟨j, hj, rfl, HX⟩ := hrel
    cases gk with
    | zero =>
      obtain rfl : j = n := by omega
      have HR : Hid (Sl encU (fun b => w.heap.size ≤ b) wr u9 (behI x q dr j k) ∧ TI (k + j) wr ∧ w.grownBy wr (some g)) := Lib.hid ⟨HX.out.1.sl, HX.out.2⟩
      have hno : ¬ ((j : Int) < (j : Int)) := by omega
      clear HX
      go_wp2
      go_ret
      exact ⟨_, rfl, HR.out⟩
    | succ m =>
      have hjn : (j : Int) < (n : Int) := by omega
      have HC := Lib.hid (HT.out.next (by omega) HX.out.2.1)
      have HA := Lib.hid HX.out.1
      have HG := Lib.hid HX.out.2.2
      have HV := Lib.hid (HT.out.val (k + j))
      have HSN := Lib.hid (behI_succ x q dr j k)
      have HLB : Hid (((behI x q dr j k).length + 1) * 8 ≤ 140737488355328) := Lib.hid (by rw [behI_len]; omega)
      obtain ⟨y, hy⟩ : ∃ y, y = dr (k + j) := ⟨_, rfl⟩
      rw [← hy] at HC HV HSN
      clear HX hy
      go_wp2_with fail
      refine HC.out.mono ?_
      rintro e w2 ⟨rfl, hi2, hg2⟩
      have HA2 := Lib.hid (HA.out.keep hg2 (fun b hb e => by injection e with e; have := HGW.out; omega))
      have HI2 := Lib.hid hi2
      have HG2 : Hid (w.grownBy w2 (some g)) := Lib.hid (HG.out.trans hg2)
      have HSZ : Hid (w.heap.size ≤ w2.heap.size) := Lib.hid HG2.out.size
      clear hi2 hg2
      go_wp2_with (at_builtin; refine wpList_push rfl (.tmp 17) (.tmp 21) rfl (E := encU) (y := y) el_u64 HA2.out rfl rfl ⟨rfl, HV.out⟩ HLB.out HSZ.out (fun _ h => Nat.le_trans HSZ.out h) ?_)
      intro v9 w3 ha hg hm
      have HFIN : Hid (Acc encU w.heap.size 22 (fun b => w.heap.size ≤ b) w3 v9 (behI x q dr (j + 1) k) ∧ TI (k + (j + 1)) w3 ∧ w.grownBy w3 (some g)) := Lib.hid ⟨by rw [HSN.out]; exact ha, HT.out.keep HI2.out hg (fun b e hb => by have := (HA2.out.lt b e).1; have := HOB.out b hb; omega), HG2.out.andThen hg (fun b e => .inl (HA2.out.lt b e).1)⟩
      clear ha hg hm
      go_wp2_with fail
      go_roundg m
      case measure => omega
      case rel => exact ⟨j + 1, by omega, by go_num, HFIN⟩
end Go.Proofs.YtiimippmihkgcaaGreatDoor

namespace Go.Proofs.YtiimippmihkgcaaGreatDoor
open Go Go.RowKit Go.Shelf

attribute [local go_sem] Oper.semAt_some
theorem Sl.cap {α : Type} {E : Enc α} {X : Nat → Prop} {w : World} {A : Option Addr} {n c : Nat} {xs : List α} (h : Sl E X w (.slice A n c) xs) (c' : Nat) (h1 : n ≤ c') (h2 : c' ≤ 9223372036854775807) : Sl E X w (.slice A n c') xs := by
  obtain ⟨A', c0, e, _, _, h3⟩ := h
  injection e with e1 e2 _
  subst e1 e2
  exact ⟨_, c', rfl, h1, h2, h3⟩
set_option maxHeartbeats 400000 in
theorem chunk_any (A : Option Addr) (m c n : Nat) (hn : 1 ≤ n) (w : World) :
    Calls Tryz.prog 84 #[.slice A m c, .int .i64 n] w fun e w' => e = .returned (.func (.func 114) #[] #[.pointer (some ⟨w.heap.size, 0, none⟩), .pointer (some ⟨w.heap.size + 1, 0, none⟩)]) ∧ w' = (w.alloc (.cells #[.slice A m c] 39)).alloc (.cells #[.int .i64 n] 3) := by
  have h1 : decide ((n : Int) < 1) = false := by simp; omega
  clear hn
  go_enter Tryz.func84, Tryz.ntmps84
  go_wp2
  go_ret
  exact ⟨rfl, rfl⟩
/-- A piece as it is handed over. -/
abbrev CK (X : Nat → Prop) (w₀ : World) (l : List Int) (n : Nat) := { x : (Option Addr × Nat) × List Int // Sl encU X w₀ (.slice x.1.1 n x.1.2) x.2 ∧ x.2.length = n ∧ ∀ y ∈ x.2, y ∈ l }
set_option maxRecDepth 100000 in
set_option maxHeartbeats 2000000 in
theorem chunk_in (n : Nat) (hn : 1 ≤ n) (lo Ba Bb : Nat) (va : Value) (l : List Int) (m k : Nat) (hm : 1 ≤ m) (hlen : l.length = k * m) (X : Nat → Prop) (w₀ : World) (J Jx : List (CK X w₀ l m) → World → Prop)
    (hY : ∀ pre x W, J pre W → pre.length < k → YieldAt Fence.wide (n - 1) Tryz.prog lo #[.slice x.1.1.1 m x.1.1.2] W fun e W' =>
      (e = .returned (.bool true) ∧ J (pre ++ [x]) W' ∧ KpAB w₀.heap.size Ba Bb W W') ∨ (e = .returned (.bool false) ∧ Jx (pre ++ [x]) W'))
    (W : World) (hJ : AbidesFrom W.heap.size J) (hW0 : Below w₀.heap.size w₀ W) (hBa : Boxed W Ba 39 va) (hBb : Boxed W Bb 3 (.int .i64 m)) (hA : Sl encU X w₀ va l) (h0 : J [] W) :
    CallsIn Fence.wide n Tryz.prog 114 #[.func (.yield lo) #[] #[], .pointer (some ⟨Ba, 0, none⟩), .pointer (some ⟨Bb, 0, none⟩)] W fun e W' => (∃ v, e = .returned v) ∧
      ((∃ ys, ys.map (fun y => y.1.2) = chk m l k ∧ J ys W') ∨ (∃ pre, True ∧ Jx pre W')) := by
  refine callsIn_of_wp Tryz.func114 rfl trivial ?_ rfl
  simp only [Tryz.ntmps114, List.size_toArray, List.length_cons, List.length_nil, Nat.reduceAdd, Nat.reduceSub, Array.replicate_succ, Array.replicate_zero, List.push_toArray, List.append_toArray, List.nil_append, List.cons_append]
  obtain ⟨A1, c1, rfl, hc1, hc2⟩ := hA.form
  have HA := Lib.hid hA
  have HBA := Lib.hid hBa
  have HBB := Lib.hid hBb
  have HH0 := Lib.hid h0
  have HLEN := Lib.hid hlen
  clear hA hBa hBb h0 hlen
  obtain ⟨L, hL⟩ : ∃ L, L = l.length := ⟨_, rfl⟩
  have HL := Lib.hid hL
  rw [← hL] at HBA hc1
  clear hL
  gi_wp2
  gi_loopw [4] (fun s4 wr => ∃ (r i0 : Nat) (pre : List (CK X w₀ l m)), r ≤ k ∧ i0 ≤ L ∧ s4 = .int .i64 i0 ∧ Hid (i0 = r * m ∧ pre.map (fun y => y.1.2) = chk m l r ∧ J pre wr ∧ KpAB w₀.heap.size Ba Bb W wr)) (fun s4 _ => L - (intOf s4).toNat)
  case atStart => exact ⟨0, 0, [], by omega, by omega, rfl, Lib.hid ⟨by omega, rfl, HH0.out, KpAB.refl _ _ _ _⟩⟩
  case round =>
    obtain ⟨r, i0, pre, hr, hi0, rfl, HX⟩ := hrel
    have hca : wr.cell? ⟨Ba, 0, none⟩ = some (.slice A1 L c1) := (World.cell?_of_block (w := W) HX.out.2.2.2.2.1).trans HBA.out.cell
    have hcb : wr.cell? ⟨Bb, 0, none⟩ = some (.int .i64 m) := (World.cell?_of_block (w := W) HX.out.2.2.2.2.2).trans HBB.out.cell
    have hBaLt : w₀.heap.size ≤ wr.heap.size ∧ Ba < wr.heap.size ∧ Bb < wr.heap.size := ⟨(hW0.trans HX.out.2.2.2.1).size, Nat.lt_of_lt_of_le HBA.out.lt HX.out.2.2.2.1.size, Nat.lt_of_lt_of_le HBB.out.lt HX.out.2.2.2.1.size⟩
    by_cases hlt : r < k
    · have hmm : r * m + m ≤ k * m := by
        have h1 := Nat.mul_le_mul_right m (show r + 1 ≤ k from hlt)
        rw [Nat.add_mul] at h1
        omega
      have him : i0 + m ≤ L := by rw [HX.out.1, HL.out, HLEN.out]; exact hmm
      have hil : i0 < L := by omega
      have hI : (i0 : Int) < (L : Int) := by omega
      have hIM : (i0 : Int) + (m : Int) ≤ (L : Int) := by omega
      have hIC : (i0 : Int) + (m : Int) ≤ (c1 : Int) := by omega
      have hIc : (i0 : Int) < (c1 : Int) := by omega
      have hm0 : (0 : Int) < (m : Int) := by omega
      have hcne : ¬ c1 = i0 := by omega
      have hmin : min (m : Int) ((L : Int) - (i0 : Int)) = (m : Int) := by omega
      have hnat : ((L - i0 : Nat) : Int) = (L : Int) - (i0 : Int) := by omega
      have hmin2 : min (m : Int) ((L - i0 : Nat) : Int) = (m : Int) := by omega
      obtain ⟨g, o, rfl, _, _⟩ := HA.out.addr (by rw [← HL.out]; omega)
      have hpl : pre.length = r := by have := congrArg List.length HX.out.2.1; simpa [chk_length] using this
      have hJk : J pre wr.drew := hJ _ wr wr.drew none HX.out.2.2.1 (grownBy_drewN (World.grownBy.refl wr none) 1) (by simp)
      have hSP : Sl encU X w₀ (.slice (some ⟨g, o + i0, none⟩) m m) ((l.drop (r * m)).take m) := by
        have h1 := HA.out.drop i0 (by rw [← HL.out]; omega)
        rw [show encU.size = 1 from rfl, Nat.mul_one, HX.out.1] at h1
        have h2 := h1.take m (by rw [List.length_drop, ← HL.out]; have := HX.out.1; omega)
        rw [HX.out.1]
        exact h2.cap m (Nat.le_refl _) (by omega)
      have hpm : ((l.drop (r * m)).take m).length = m := by rw [List.length_take, List.length_drop, ← HL.out]; have := HX.out.1; omega
      have HCA : Hid (∀ w', wr.drew.grownBy w' none → w'.cell? ⟨Ba, 0, none⟩ = some (.slice (some ⟨g, o, none⟩) L c1)) := Lib.hid (fun w' h => cell_kept hca ((grown_drewN' wr 1).trans h) (by simp))
      have HCB : Hid (∀ w', wr.drew.grownBy w' none → w'.cell? ⟨Bb, 0, none⟩ = some (.int .i64 m)) := Lib.hid (fun w' h => cell_kept hcb ((grown_drewN' wr 1).trans h) (by simp))
      have HI1 : Hid (i0 + m = (r + 1) * m) := Lib.hid (by rw [HX.out.1, Nat.add_mul, Nat.one_mul])
      have HPX := Lib.hid HX.out.2.1
      have HKW := Lib.hid HX.out.2.2.2
      have HJK := Lib.hid hJk
      have HLA := Lib.hid hBaLt
      clear HX hJk hmm
      gi_wp2
      refine wpIn_region_mono 6 (by kernel_rfl) (by kernel_rfl) (by kernel_rfl) ?_
      -- op 0 (slot 13): load
      refine MonoR.step (Pv.eq (.int .i64 (m : Int))) [] (by kernel_rfl) (fun w' hw' => ?_) ?_
      · refine ask_do rfl fun K hK => ?_
        have hd := HCA.out w' hw'
        have he := HCB.out w' hw'
        go_simp
        exact hK _ _ rfl rfl (World.grownBy.refl _ none)
      -- op 1 (slot 14): load
      refine MonoR.step (Pv.eq (.slice (some ⟨g, o, none⟩) L c1)) [] (by kernel_rfl) (fun w' hw' => ?_) ?_
      · refine ask_do rfl fun K hK => ?_
        have hd := HCA.out w' hw'
        have he := HCB.out w' hw'
        go_simp
        exact hK _ _ rfl rfl (World.grownBy.refl _ none)
      -- op 2 (slot 15): move
      refine MonoR.step (Pv.eq (.int .i64 (i0 : Int))) [] (by kernel_rfl) (fun w' hw' => ?_) ?_
      · refine ask_do rfl fun K hK => ?_
        go_simp
        exact hK _ _ rfl rfl (World.grownBy.refl _ none)
      -- op 3 (slot 16): slice
      refine MonoR.step (Pv.eq (.slice (some ⟨g, o + i0, none⟩) (L - i0) (c1 - i0))) [(1, 14), (2, 15)] (by kernel_rfl) (fun w' hw' => ?_) ?_
      · rintro _ rfl
        rintro _ rfl
        refine ask_do rfl fun K hK => ?_
        go_simp
        exact hK _ _ rfl rfl (World.grownBy.refl _ none)
      -- op 4 (slot 17): call
      refine MonoR.step (Pv.eq (.int .i64 ((L : Int) - (i0 : Int)))) [(3, 16)] (by kernel_rfl) (fun w' hw' => ?_) ?_
      · rintro _ rfl
        refine ask_do rfl fun K hK => ?_
        go_simp
        exact hK _ _ rfl rfl (World.grownBy.refl _ none)
      -- op 5 (slot 18): call
      refine MonoR.step (Pv.eq (.int .i64 (m : Int))) [(0, 13), (4, 17)] (by kernel_rfl) (fun w' hw' => ?_) ?_
      · rintro _ rfl
        rintro _ rfl
        refine ask_do rfl fun K hK => ?_
        go_simp
        exact hK _ _ rfl rfl (World.grownBy.refl _ none)
      
      intro w3 hw3
      intro y0 k0 y1 k1 y2 k2 y3 k3 y4 k4 y5 k5
      show wpListIn Fence.wide n Tryz.prog _ _ _ _ w3
      simp only [Act.put, List.setIfInBounds_toArray, List.set_cons_zero, List.set_cons_succ]
      have k5 : y5 = .int .i64 (m : Int) := k5
      subst k5
      have HW3 := Lib.hid hw3
      clear hw3 k0 k1 k2 k3 k4
      have hJ3 : J pre w3 := hJ _ wr.drew w3 none HJK.out HW3.out (by simp)
      have HK3 : Hid (KpAB w₀.heap.size Ba Bb wr w3) := Lib.hid (by
        have hg := (grown_drewN' wr 1).trans HW3.out
        exact ⟨(below_grown hg).mono HLA.out.1, hg.block _ HLA.out.2.1 (by simp), hg.block _ HLA.out.2.2 (by simp)⟩)
      have hcc := HCA.out w3 HW3.out
      obtain ⟨fn, tmps, assign, body, hy, hR⟩ := hY _ (⟨((some ⟨g, o + i0, none⟩, m), (l.drop (r * m)).take m), hSP, hpm, fun y hy => List.mem_of_mem_drop (List.mem_of_mem_take hy)⟩ : CK X w₀ l m) w3 hJ3 (by rw [hpl]; exact hlt)
      dsimp only at hy
      have HPN : Hid ((pre ++ [(⟨((some ⟨g, o + i0, none⟩, m), (l.drop (r * m)).take m), hSP, hpm, fun y hy => List.mem_of_mem_drop (List.mem_of_mem_take hy)⟩ : CK X w₀ l m)]).map (fun y => y.1.2) = chk m l (r + 1)) := Lib.hid (by rw [List.map_append, HPX.out, chk_succ]; rfl)
      have HR := Lib.hid (hR.mono (R' := fun e W' => ∃ bb : Bool, e = .returned (.bool bb) ∧ Hid ((bb = true ∧ J (pre ++ [(⟨((some ⟨g, o + i0, none⟩, m), (l.drop (r * m)).take m), hSP, hpm, fun y hy => List.mem_of_mem_drop (List.mem_of_mem_take hy)⟩ : CK X w₀ l m)]) W' ∧ KpAB w₀.heap.size Ba Bb w3 W') ∨ (bb = false ∧ Jx (pre ++ [(⟨((some ⟨g, o + i0, none⟩, m), (l.drop (r * m)).take m), hSP, hpm, fun y hy => List.mem_of_mem_drop (List.mem_of_mem_take hy)⟩ : CK X w₀ l m)]) W'))) (fun e W' h => by
        rcases h with ⟨h1, h2, h3⟩ | ⟨h1, h2⟩
        · exact ⟨true, h1, Lib.hid (.inl ⟨rfl, h2, h3⟩)⟩
        · exact ⟨false, h1, Lib.hid (.inr ⟨rfl, h2⟩)⟩))
      clear hR hJ3
      gi_wp2
      refine HR.out.mono ?_
      rintro e W' ⟨bb, rfl, hout⟩
      cases bb with
      | true =>
        rcases hout.out with ⟨_, hJ2, hK2⟩ | ⟨h, _⟩
        · have hcb2 : W'.cell? ⟨Bb, 0, none⟩ = some (.int .i64 m) := (World.cell?_of_block (w := w3) hK2.2.2).trans (HCB.out w3 HW3.out)
          gi_wp2
          exact ⟨⟨r + 1, i0 + m, _, by omega, by omega, by go_num, Lib.hid ⟨HI1.out, HPN.out, hJ2, HKW.out.trans (HK3.out.trans hK2)⟩⟩, by simp [intOf]; omega⟩
        · cases h
      | false =>
        rcases hout.out with ⟨h, _⟩ | ⟨_, hJx2⟩
        · cases h
        · gi_wp2
          refine bodyPost_ret (results_none rfl _ _ _) rfl ?_
          exact ⟨⟨_, rfl⟩, .inr ⟨_, trivial, hJx2⟩⟩
    · obtain rfl : r = k := by omega
      have hn2 : ¬ (i0 : Int) < (L : Int) := by have h1 := HX.out.1; have h2 := HLEN.out; have h3 := HL.out; omega
      gi_wp2
      go_end0
      exact ⟨⟨_, rfl⟩, .inl ⟨pre, HX.out.2.1, HX.out.2.2.1⟩⟩
theorem chunk_stops (n : Nat) (hn : 1 ≤ n) (Ba Bb : Nat) (va : Value) (l : List Int) (m k : Nat) (hm : 1 ≤ m) (hlen : l.length = k * m) (X : Nat → Prop) (w₀ w1 : World) (h01 : Below w₀.heap.size w₀ w1) (hBa : Boxed w1 Ba 39 va) (hBb : Boxed w1 Bb 3 (.int .i64 m)) (hA : Sl encU X w₀ va l) :
    SeqStopsK Fence.wide n Tryz.prog 114 #[.pointer (some ⟨Ba, 0, none⟩), .pointer (some ⟨Bb, 0, none⟩)] (fun x : CK X w₀ l m => #[.slice x.1.1.1 m x.1.1.2]) (KpAB w₀.heap.size Ba Bb) (fun ys => ys.map (fun y => y.1.2) = chk m l k) (fun _ => True) k w1 := fun lo J Jx W hW hJ _ hY h0 =>
  chunk_in n hn lo Ba Bb va l m k hm hlen X w₀ J Jx hY W hJ (h01.trans (hW.mono h01.size)) ((hW.5 Ba hBa.lt).trans hBa) ((hW.5 Bb hBb.lt).trans hBb) hA h0
end Go.Proofs.YtiimippmihkgcaaGreatDoor

namespace Go.Proofs.YtiimippmihkgcaaGreatDoor
open Go

/-- Where the worlds stand when some late operations are over, these having told values; and what the k-th of them does to what lay there. -/
structure Lt where
  C : List Value → World → Prop
  R : Nat → World → World → Prop
  g : ∀ {vs w w'}, C vs w → w.grownBy w' none → C vs w'
/-- What is known of a value, and stands: as long as nothing is written, and through the late operations from the fr-th on. -/
structure Qv (L : Lt) where
  p : List Value → Value → World → Prop
  fr : Nat
  st : ∀ {vs v w w'}, p vs v w → w.grownBy w' none → p vs v w'
  sr : ∀ {vs u v w w'}, fr ≤ vs.length → L.C vs w → L.R vs.length w w' → p vs v w → p (vs ++ [u]) v w'
def Qv.any {L : Lt} : Qv L := ⟨fun _ _ _ => True, 0, fun _ _ => trivial, fun _ _ _ _ => trivial⟩
def Qv.eq {L : Lt} (u : Value) : Qv L := ⟨fun _ v _ => v = u, 0, fun h _ => h, fun _ _ _ h => h⟩
/-- What the q-th late operation has told. -/
def Qv.slot {L : Lt} (q : Nat) : Qv L := ⟨fun vs v _ => vs[q]? = some v, q + 1, fun h _ => h, fun _ _ _ h => by
  have := (List.getElem?_eq_some_iff.1 h).1
  rw [List.getElem?_append_left this]
  exact h⟩
section
variable {L : Lt} {late : List Nat} {P : Program} {ops : Array Oper} {Q : Exit → Act → World → Prop} {n : Nat} {a0 : Act} {w0 : World}

def ToldL (T : Value → World → Prop) (dst : Option Tmp) (ds : List Deferred) : Exit → Act → World → Prop := fun e a' w' => e = .normal ∧ a'.defers = ds ∧ T (match dst with | some d => a'.eval (.tmp d) | none => undef) w'
def Ask' (P : Program) (ops : Array Oper) (vs : List Value) (Vs : List (Qv L)) (Qt : Exit → Act → World → Prop) (o : Oper) (w : World) : List (Nat × Tmp) → Act → Prop
  | [], a => wpList P ops Qt [o] a w
  | (j, d) :: js, a => ∀ x, (Vs.getD j Qv.any).p vs x w → Ask' P ops vs Vs Qt o w js (a.put (some d) x)
/-- What is asked of one operation. -/
def AskL (L : Lt) (late : List Nat) (P : Program) (ops : Array Oper) (Vs : List (Qv L)) (ds : List Deferred) (i : Nat) (V : Qv L) (o : Oper) (js : List (Nat × Tmp)) (a0 : Act) : Prop :=
  (late.contains i = false ∧ V.fr = 0 ∧ ∀ vs w, L.C vs w → Ask' P ops vs Vs (ToldL (fun v w' => V.p vs v w' ∧ w.grownBy w' none) o.dst ds) o w js a0) ∨
  (∃ q, late[q]? = some i ∧ V = Qv.slot q ∧ ∀ vs w, vs.length = q → L.C vs w → Ask' P ops vs Vs (ToldL (fun v w' => L.R q w w' ∧ L.C (vs ++ [v]) w') o.dst ds) o w js a0)
def LateR (L : Lt) (late : List Nat) (P : Program) (ops : Array Oper) (n : Nat) (a0 : Act) (F : List (Qv L) → Prop) : Nat → List (Qv L) → List Oper → Prop
  | 0, Rs, _ => F Rs.reverse
  | _ + 1, _, [] => False
  | k + 1, Rs, o :: os => ∃ (V : Qv L) (js : List (Nat × Tmp)), (pairB ops Rs.length js && lookB ops n Rs.length js) = true ∧ AskL L late P ops Rs.reverse a0.defers Rs.length V o js a0 ∧ LateR L late P ops n a0 F k (V :: Rs) os
theorem LateR.mono {F : List (Qv L) → Prop} {k : Nat} {Rs : List (Qv L)} {o : Oper} {os : List Oper} (V : Qv L) (js : List (Nat × Tmp)) (hc : (pairB ops Rs.length js && lookB ops n Rs.length js) = true) (hl : late.contains Rs.length = false) (hf : V.fr = 0) (hA : ∀ vs w, L.C vs w → Ask' P ops vs Rs.reverse (ToldL (fun v w' => V.p vs v w' ∧ w.grownBy w' none) o.dst a0.defers) o w js a0) (h : LateR L late P ops n a0 F k (V :: Rs) os) : LateR L late P ops n a0 F (k + 1) Rs (o :: os) := ⟨V, js, hc, .inl ⟨hl, hf, hA⟩, h⟩
theorem LateR.turn {F : List (Qv L) → Prop} {k : Nat} {Rs : List (Qv L)} {o : Oper} {os : List Oper} (q : Nat) (js : List (Nat × Tmp)) (hc : (pairB ops Rs.length js && lookB ops n Rs.length js) = true) (hl : late[q]? = some Rs.length) (hA : ∀ vs w, vs.length = q → L.C vs w → Ask' P ops vs Rs.reverse (ToldL (fun v w' => L.R q w w' ∧ L.C (vs ++ [v]) w') o.dst a0.defers) o w js a0) (h : LateR L late P ops n a0 F k (Qv.slot q :: Rs) os) : LateR L late P ops n a0 F (k + 1) Rs (o :: os) := ⟨Qv.slot q, js, hc, .inr ⟨q, hl, rfl, hA⟩, h⟩
theorem LateR.out {F : List (Qv L) → Prop} : ∀ {k : Nat} {Rs : List (Qv L)} {os : List Oper}, LateR L late P ops n a0 F k Rs os → k ≤ os.length ∧ ∃ Ws : List (Qv L), Ws.length = k ∧ F (Rs.reverse ++ Ws) ∧ ∀ m o, m < k → os[m]? = some o → ∃ V js, Ws[m]? = some V ∧ (pairB ops (Rs.length + m) js && lookB ops n (Rs.length + m) js) = true ∧ AskL L late P ops ((Rs.reverse ++ Ws).take (Rs.length + m)) a0.defers (Rs.length + m) V o js a0
  | 0, Rs, os, h => ⟨Nat.zero_le _, [], rfl, by rw [List.append_nil]; exact h, fun m o hm => by omega⟩
  | _ + 1, _, [], h => h.elim
  | k + 1, Rs, o :: os, ⟨V, js, hb, hA, hM⟩ => by
    obtain ⟨hkl, Ws, hl, hF, hk⟩ := LateR.out hM
    refine ⟨by simpa using hkl, V :: Ws, by simp [hl], by simpa using hF, fun m o' hm ho => ?_⟩
    cases m with
    | zero =>
      obtain rfl : o = o' := by simpa using ho
      refine ⟨V, js, rfl, hb, ?_⟩
      have : (Rs.reverse ++ V :: Ws).take (Rs.length + 0) = Rs.reverse := by
        rw [Nat.add_zero, ← List.length_reverse]
        exact List.take_left
      rw [this]
      exact hA
    | succ m =>
      obtain ⟨V', js', h1, h2, h3⟩ := hk m o' (by omega) (by simpa using ho)
      refine ⟨V', js', by simpa using h1, ?_, ?_⟩
      · simpa [Nat.add_assoc, Nat.add_comm 1 m] using h2
      · simpa [Nat.add_assoc, Nat.add_comm 1 m] using h3
def FinL' (G : Act → World → Prop) (vs : List Value) (w : World) : List (Qv L) → List Oper → Act → Prop
  | V :: Vs, o :: os, a => ∀ x, V.p vs x w → FinL' G vs w Vs os (a.put o.dst x)
  | _, _, a => G a w
theorem FinL'.all {G : Act → World → Prop} {vs : List Value} {w : World} {b : Act} : ∀ {Vs : List (Qv L)} {os : List Oper} {a : Act}, Vs.length = os.length → (∀ (k : Nat) (V : Qv L) (o : Oper), Vs[k]? = some V → os[k]? = some o → V.p vs (match o.dst with | some d => b.eval (.tmp d) | none => undef) w) → FinL' G vs w Vs os a → G (onto b (os.map (·.dst)) a) w
  | [], [], _, _, _, h => h
  | V :: Vs, o :: os, a, hl, hx, h => FinL'.all (Vs := Vs) (os := os) (by simpa using hl) (fun k V o hv ho => hx (k + 1) V o (by simpa using hv) (by simpa using ho)) (h _ (hx 0 V o rfl rfl))
  | [], _ :: _, _, hl, _, _ => by simp at hl
  | _ :: _, [], _, hl, _, _ => by simp at hl
theorem Ask'.all {vs : List Value} {Vs : List (Qv L)} {Qt : Exit → Act → World → Prop} {o : Oper} {w : World} {b : Act} : ∀ {js : List (Nat × Tmp)} {a : Act}, (∀ x : Nat × Tmp, x ∈ js → (Vs.getD x.1 Qv.any).p vs (b.eval (.tmp x.2)) w) → Ask' P ops vs Vs Qt o w js a → wpList P ops Qt [o] (onto b (js.map fun x => some x.2) a) w
  | [], _, _, h => h
  | (j, d) :: js, a, hx, h => Ask'.all (js := js) (fun x hm => hx x (List.mem_cons_of_mem _ hm)) (h _ (hx (j, d) (by simp)))
/-- Which late operations are over: the first k. -/
def Cls (L : Lt) (late : List Nat) (vs : List Value) (D : Array Bool) (w : World) : Prop := vs.length ≤ late.length ∧ L.C vs w ∧ ∀ q i, late[q]? = some i → (D.getD i false = true ↔ q < vs.length)
structure LInv (L : Lt) (late : List Nat) (ops : Array Oper) (n : Nat) (a0 : Act) (Vs : List (Qv L)) (vs : List Value) (D : Array Bool) (a : Act) (w : World) : Prop where
  head : HeadInv .any ops n D
  cls : Cls L late vs D w
  tsize : a.tmps.size = a0.tmps.size
  defers : a.defers = a0.defers
  rest : ∀ t, (∀ j, j < n → D.getD j false = true → dstAt ops j ≠ some t) → a.tmps[t]? = a0.tmps[t]?
  known : ∀ j V, D.getD j false = true → Vs[j]? = some V → V.p vs (valOf (dstAt ops j) a) w
theorem toldL_letsOut {T : Value → World → Prop} {dst : Option Tmp} {ds : List Deferred} : ¬ LetsOut (ToldL T dst ds) := by
  rintro ⟨a, w', e, _⟩
  cases e
def chainB (ops : Array Oper) (late : List Nat) : Bool := (List.range (late.length - 1)).all fun q => Region.waitsFor .any ops (late.getD (q + 1) 0) (late.getD q 0)
def lateB (ops : Array Oper) (n : Nat) (late : List Nat) : Bool := late.all (fun i => decide (i < n)) && decide late.Nodup && chainB ops late
theorem toldL_op {T : Value → World → Prop} {o : Oper} {a b : Act} {w : World} (hs : ∀ cs b, o.op ≠ .select cs b) (hd : ∀ d, o.dst = some d → d < a.tmps.size) (hsz : b.tmps.size = a.tmps.size) (hlook : ∀ t ∈ o.looksAt ops, b.tmps[t]? = a.tmps[t]?) {i : Nat} (hi : ops[i]? = some o)
    (hdf : b.defers = a0.defers) (h : wpList P ops (ToldL T o.dst a0.defers) [o] b w) : wpOp P ops Q i (fun a' w' => ∃ v, a' = a.put o.dst v ∧ T (match o.dst with | some _ => v | none => undef) w') a w := by
  have hex : execOp b.eval o = execOp a.eval o := execOp_congr o hs fun x hx => by
    cases x with
    | tmp t => exact eval_of _ _ _ (hlook t (List.mem_append_left _ (List.mem_filterMap.2 ⟨.tmp t, by simpa using hx, rfl⟩)))
    | _ => rfl
  have hwn : Region.wanted o (yielded ops b.tmps) = Region.wanted o (yielded ops a.tmps) := by
    unfold Region.wanted
    cases hg : o.guard with
    | none => rfl
    | some gw =>
      obtain ⟨g, want⟩ := gw
      have hy : yielded ops b.tmps g = yielded ops a.tmps g := by
        unfold yielded
        cases ht : (ops[g]?).bind (·.dst) with
        | none => rfl
        | some t => simp only [Option.bind_some, hlook t (by simp [Oper.looksAt, hg, ht])]
      simp only [hy]
  have fin : ∀ v w', ToldL T o.dst a0.defers .normal (b.put o.dst v) w' → ∃ v', a.put o.dst v = a.put o.dst v' ∧ T (match o.dst with | some _ => v' | none => undef) w' := by
    rintro v w' ⟨_, _, h1⟩
    refine ⟨v, rfl, ?_⟩
    cases hdd : o.dst with
    | none => rw [hdd] at h1; exact h1
    | some d =>
      rw [hdd] at h1
      have hlt := hd d hdd
      have : (b.put (some d) v).eval (.tmp d) = v := by simp [Act.put, Act.eval, Array.getD_eq_getD_getElem?, hsz, hlt]
      simp only [this] at h1
      exact h1
  unfold wpOp
  simp only [hi]
  simp only [wpList, hwn] at h
  split
  · rename_i hw
    rw [if_pos hw] at h
    rcases h with h | h
    · left
      unfold Oper.wp at h ⊢
      rw [hex] at h
      generalize (execOp a.eval o).run P w = r at *
      cases r with
      | ok x w' =>
        cases x with
        | value v => exact fin v w' h
        | skip => exact fin undef w' h
        | enter f args =>
          refine Calls.mono h fun e w'' he => ?_
          cases e with
          | returned u => exact fin u w'' he
          | panicked c => exact absurd he.1 (by simp)
          | outgrown => exact absurd he toldL_letsOut
        | row row args => exact Rows.mono h fun u w'' he => fin u w'' he
        | defer d =>
          obtain ⟨_, h1, _⟩ := h
          have h1 : (Act.put { b with defers := d :: b.defers } o.dst undef).defers = a0.defers := h1
          rw [put_defers, ← hdf] at h1
          exact absurd (congrArg List.length h1) (by simp)
        | _ => exact h.elim
      | halt x w' =>
        cases x with
        | panic v => exact absurd h.1 (by simp)
        | _ => exact h.elim
    · exact absurd h.2 toldL_letsOut
  · rename_i hw
    rw [if_neg hw] at h
    exact fin undef w h
theorem linv_step {L : Lt} {late : List Nat} {vs vs2 : List Value} {Vs : List (Qv L)} {D : Array Bool} {a a' : Act} {w w' : World} {i : Nat} {o : Oper} {V : Qv L} {v : Value} (inv : LInv L late ops n a0 Vs vs D a w) (hd : distB ops n a0.tmps.size = true) (hi : i ∈ Region.ready .any ops D) (hin : i < n) (ho : ops[i]? = some o) (hV : Vs[i]? = some V) (hnl : Vs.length ≤ n)
    (ha : a' = a.put o.dst v) (hv : V.p vs2 (match o.dst with | some _ => v | none => undef) w') (hg : ∀ (W : Qv L) (j : Nat), D.getD j false = true → Vs[j]? = some W → ∀ {u : Value}, W.p vs u w → W.p vs2 u w') (hcl : Cls L late vs2 (D.setIfInBounds i true) w') : LInv L late ops n a0 Vs vs2 (D.setIfInBounds i true) a' w' := by
  subst ha
  have hdi : dstAt ops i = o.dst := by simp [dstAt, ho]
  have hun : D.getD i true = false := (mem_ready.1 hi).1
  have hlt : i < D.size := by
    rcases Nat.lt_or_ge i D.size with h' | h'
    · exact h'
    · simp [Array.getElem?_eq_none h'] at hun
  refine ⟨inv.head.set hi hin, hcl, (put_size _ _ _).trans inv.tsize, (put_defers _ _ _).trans inv.defers, fun t ht => ?_, fun j W hj hW => ?_⟩
  · have h1 : o.dst ≠ some t := fun e => ht i hin (by simp [hlt]) (hdi.trans e)
    refine Eq.trans ?_ (inv.rest t fun j hj hD => ht j hj (getD_set_true hD))
    cases hdd : o.dst with
    | none => rfl
    | some d => exact put_at _ _ _ _ (fun e => h1 (by rw [hdd, e]))
  · by_cases e : i = j
    · subst e
      obtain rfl : V = W := Option.some.inj (hV.symm.trans hW)
      rw [hdi]
      cases hdd : o.dst with
      | none => rw [hdd] at hv; exact hv
      | some d =>
        rw [hdd] at hv
        have hds := list_all_range hd hin
        rw [hdi, hdd] at hds
        simp only [Bool.and_eq_true, decide_eq_true_eq] at hds
        have : (a.put (some d) v).eval (.tmp d) = v := by simp [Act.put, Act.eval, Array.getD_eq_getD_getElem?, inv.tsize, hds.1]
        show V.p vs2 ((a.put (some d) v).eval (.tmp d)) w'
        rw [this]
        exact hv
    · have hjn : j < n := by have := (List.getElem?_eq_some_iff.1 hW).1; omega
      rw [getD_set_ne false e] at hj
      have h1 := hg W j hj hW (inv.known j W hj hW)
      cases hdj : dstAt ops j with
      | none => rw [hdj] at h1; exact h1
      | some dj =>
        rw [hdj] at h1
        have h1 : W.p vs2 (a.eval (.tmp dj)) w' := h1
        show W.p vs2 ((a.put o.dst v).eval (.tmp dj)) w'
        cases hdd : o.dst with
        | none => exact h1
        | some d =>
          have hds := list_all_range hd hin
          rw [hdi, hdd] at hds
          simp only [Bool.and_eq_true, decide_eq_true_eq] at hds
          have h2 := list_all_range hds.2 hjn
          simp only [Bool.or_eq_true, beq_iff_eq, bne_iff_ne, ne_eq] at h2
          have h3 : d ≠ dj := fun e' => (h2.resolve_left (fun e2 => e e2.symm)) (by rw [hdj, e'])
          rw [eval_of _ a dj (put_at a d dj v h3)]
          exact h1
/-- The law. -/
theorem wpAny_late {l : List Oper} (n : Nat) (hB : monoB l.toArray n a0.tmps.size = true) (hBl : lateB l.toArray n late = true) (hC0 : L.C [] w0)
    (h : LateR L late P l.toArray n a0 (fun Vs => ∀ vs w, vs.length = late.length → L.C vs w → FinL' (fun a w => wpList P l.toArray Q (l.drop n) a w) vs w Vs (l.take n) a0) n [] l) : wpAny P .any l.toArray Q l.toArray.size (Array.replicate l.toArray.size false) a0 w0 := by
  simp only [monoB, Bool.and_eq_true, decide_eq_true_eq] at hB
  obtain ⟨⟨⟨⟨hsel, hn⟩, htail⟩, htopo⟩, hdist⟩ := hB
  simp only [tailB, Bool.and_eq_true] at htail
  obtain ⟨hblk, hseq⟩ := htail
  simp only [lateB, Bool.and_eq_true, decide_eq_true_eq] at hBl
  obtain ⟨⟨hlt0, hnd⟩, hch⟩ := hBl
  have hlate : ∀ i ∈ late, i < n := fun i hi => by simpa using List.all_eq_true.1 hlt0 i hi
  have hchain : ∀ q, q + 1 < late.length → ∀ i, late[q + 1]? = some i → ∀ i', late[q]? = some i' → Region.waitsFor .any l.toArray i i' = true := fun q hq i h1 i' h2 => by
    have := list_all_range hch (show q < late.length - 1 by omega)
    rw [List.getD_eq_getElem?_getD, List.getD_eq_getElem?_getD, h1, h2] at this
    exact this
  obtain ⟨_, Vs, hVl, hF, hO⟩ := LateR.out h
  rw [List.reverse_nil, List.nil_append] at hF
  simp only [List.reverse_nil, List.nil_append, List.length_nil, Nat.zero_add] at hO
  have hnl : n ≤ l.length := by simpa using hn
  have htl : (l.take n).length = n := by simp; omega
  have hVn : Vs.length = n := hVl
  have hfr : ∀ j W, Vs[j]? = some W → (late.contains j = false ∧ W.fr = 0) ∨ ∃ q, late[q]? = some j ∧ W.fr ≤ q + 1 := fun j W hW => by
    have hj : j < n := by have := (List.getElem?_eq_some_iff.1 hW).1; omega
    obtain ⟨V, js, hV, _, hask⟩ := hO j l[j] hj (List.getElem?_eq_getElem (by omega))
    obtain rfl : V = W := Option.some.inj (hV.symm.trans hW)
    rcases hask with ⟨h1, h2, _⟩ | ⟨q, h1, h2, _⟩
    · exact .inl ⟨h1, h2⟩
    · exact .inr ⟨q, h1, by rw [h2]; exact Nat.le_refl _⟩
  have hdl : (l.drop n).length = l.toArray.size - n := by simp
  have hnext : ∀ i o, i < n → l.toArray[i]? = some o → (l.take n)[i]? = some o := fun i o hi ho => by
    rw [List.getElem?_take, if_pos hi]
    simpa using ho
  have key : ∀ m vs D a w, LInv L late l.toArray n a0 Vs vs D a w → cnt D n = m → wpAny P .any l.toArray Q (m + (l.toArray.size - n)) D a w := by
    intro m
    induction m with
    | zero =>
      intro vs D a w inv hc
      have hall := cnt_zero hc
      have hD : D = Array.replicate n true ++ Array.replicate (l.toArray.size - n) false := by
        have hsz := inv.head.size
        refine Array.ext (by simp [hsz]; omega) fun i h1 h2 => ?_
        rw [Array.getElem_append]
        by_cases hi : i < n
        · have := hall i hi
          simp [h1] at this
          simp [hi, this]
        · have := inv.head.tail i (by omega) (by omega)
          simp [h1] at this
          simp [hi, this]
      have hk : ∀ (k : Nat) (V : Qv L) (o : Oper), Vs[k]? = some V → (l.take n)[k]? = some o → V.p vs (match o.dst with | some d => a.eval (.tmp d) | none => undef) w := by
        intro k V o hv ho
        have hkn : k < n := by have := (List.getElem?_eq_some_iff.1 hv).1; omega
        have h1 := inv.known k V (hall k hkn) hv
        have h2 : dstAt l.toArray k = o.dst := by
          have : l[k]? = some o := by rw [List.getElem?_take, if_pos hkn] at ho; exact ho
          simp [dstAt, this]
        rw [h2] at h1
        have h3 : (match o.dst with | some d => a.eval (.tmp d) | none => undef) = valOf o.dst a := by cases o.dst <;> rfl
        rw [h3]
        exact h1
      have hcl : vs.length = late.length ∧ L.C vs w := by
        obtain ⟨hk0, hk1, hk2⟩ := inv.cls
        rcases Nat.lt_or_ge vs.length late.length with h | h
        case inr => exact ⟨by omega, hk1⟩
        · have h1 := (hk2 vs.length late[vs.length] (List.getElem?_eq_getElem h)).1 (hall _ (hlate _ (List.getElem_mem h)))
          omega
      have hfin := FinL'.all (hVl.trans htl.symm) hk (hF vs w hcl.1 hcl.2)
      have hon : onto a ((l.take n).map (·.dst)) a0 = a := by
        refine act_ext (fun t => onto_at a t _ _ inv.tsize.symm ?_) ((onto_defers _ _ _).trans inv.defers.symm)
        by_cases ht : some t ∈ (l.take n).map (·.dst)
        · exact .inl ht
        · refine .inr (inv.rest t fun j hj _ e => ht ?_).symm
          have hjl : j < l.length := by omega
          have : l[j].dst = some t := by simpa [dstAt, hjl] using e
          exact List.mem_map.2 ⟨l[j], List.mem_iff_getElem?.2 ⟨j, by rw [List.getElem?_take, if_pos hj, List.getElem?_eq_getElem hjl]⟩, this⟩
      rw [hon] at hfin
      have := wpAny_of_seq (md := .any) (Q' := Q) (l.drop n) n D a w (fun j => by simp [List.getElem?_drop]) (by rw [hdl, hD]; exact hseq) hfin
      rw [hdl] at this
      rwa [Nat.zero_add]
    | succ m ih =>
      intro vs D a w inv hc
      have hready : ∀ i ∈ Region.ready .any l.toArray D, i < n := by
        intro i hi
        rcases Nat.lt_or_ge i n with h' | h'
        · exact h'
        · obtain ⟨hu, oi, hoi, hall⟩ := mem_ready.1 hi
          have hlt : i < l.toArray.size := (Array.getElem?_eq_some_iff.1 hoi).1
          exfalso
          obtain ⟨k, hk, hkd⟩ : ∃ k, k < n ∧ D.getD k false = false := by
            refine Classical.byContradiction fun hno => ?_
            have : ∀ k, k ≤ n → cnt D k = 0 := by
              intro k
              induction k with
              | zero => intro _; rfl
              | succ k ihk =>
                intro hk
                have h1 : D.getD k false = true := by
                  refine Classical.byContradiction fun hx => hno ⟨k, by omega, by simpa using hx⟩
                simp only [cnt, h1, ihk (by omega)]
                rfl
            rw [this n (Nat.le_refl _)] at hc
            omega
          have hb := list_all_range hblk hlt
          simp only [Bool.or_eq_true, decide_eq_true_eq] at hb
          have hb := list_all_range (hb.resolve_left (by omega)) hk
          simp only [Bool.not_eq_true'] at hb
          have hik : i ≠ k := by omega
          have : av l.toArray k n i = true := by
            have hav := fun f j hj => av_of (ops := l.toArray) inv.head.closed inv.head.size hkd f j hj
            cases hn0 : n with
            | zero => simp [av, hik]
            | succ f =>
              simp only [av, hoi, Option.map_some, Option.getD_some, Bool.and_eq_true, bne_iff_ne]
              refine ⟨hik, ?_⟩
              rw [Array.all_eq_true_iff_forall_mem]
              intro e he
              by_cases hbd : Region.binds .any e = true
              · simp [hbd, hav f e.on (hall e he hbd)]
              · simp [hbd]
          rw [hb] at this
          cases this
      have hne : Region.ready .any l.toArray D ≠ [] := by
        have hex : ∃ k, k < n ∧ D.getD k false = false ∧ ∀ j, j < k → D.getD j false = true := by
          have : ∀ k, k ≤ n → (∃ q, q < k ∧ D.getD q false = false ∧ ∀ j, j < q → D.getD j false = true) ∨ (cnt D k = 0) := by
            intro k
            induction k with
            | zero => intro _; exact .inr rfl
            | succ k ihk =>
              intro hk
              rcases ihk (by omega) with ⟨q, h1, h2⟩ | h0
              · exact .inl ⟨q, by omega, h2⟩
              · cases hq : D.getD k false with
                | true => right; simp only [cnt, hq, h0]; rfl
                | false => exact .inl ⟨k, by omega, hq, cnt_zero h0⟩
          rcases this n (Nat.le_refl _) with ⟨q, h1, h2⟩ | h0
          · exact ⟨q, h1, h2⟩
          · omega
        obtain ⟨k, hk, hkd, hbel⟩ := hex
        have hkl : k < l.toArray.size := by omega
        have ho : l.toArray[k]? = some l.toArray[k] := Array.getElem?_eq_getElem hkl
        have : k ∈ Region.ready .any l.toArray D := by
          refine mem_ready.2 ⟨getD_in (by rw [inv.head.size]; exact hkl) hkd, _, ho, fun e he hb => hbel _ ?_⟩
          have ht := list_all_range htopo hk
          simp only [ho, Option.map_some, Option.getD_some] at ht
          have := Array.all_eq_true_iff_forall_mem.1 ht e he
          simpa [hb] using this
        intro e
        rw [e] at this
        cases this
      rw [show m + 1 + (l.toArray.size - n) = (m + (l.toArray.size - n)) + 1 by omega]
      refine ⟨fun e => absurd e hne, fun i hi => ?_⟩
      have hin := hready i hi
      obtain ⟨hu, o, ho, hall⟩ := mem_ready.1 hi
      obtain ⟨V, js, hV, hchk, hask⟩ := hO i o hin (by simpa using ho)
      simp only [Bool.and_eq_true] at hchk
      obtain ⟨hpair, hlook⟩ := hchk
      have hdst : ∀ d, o.dst = some d → d < a.tmps.size := by
        intro d hd
        have := list_all_range hdist hin
        have h2 : dstAt l.toArray i = some d := by simp only [dstAt, ho]; exact hd
        rw [h2] at this
        simp only [Bool.and_eq_true, decide_eq_true_eq] at this
        rw [inv.tsize]
        exact this.1
      have hjs : ∀ x : Nat × Tmp, x ∈ js → dstAt l.toArray x.1 = some x.2 ∧ D.getD x.1 false = true ∧ x.1 < i := by
        intro x hx
        have := List.all_eq_true.1 hpair x hx
        simp only [Bool.and_eq_true, beq_iff_eq] at this
        obtain ⟨oj, hoj, e, he, hb, hon⟩ := Region.waitsFor_spec this.2
        obtain rfl : o = oj := Option.some.inj (ho.symm.trans hoj)
        have ht := list_all_range htopo hin
        simp only [ho, Option.map_some, Option.getD_some] at ht
        have ht := Array.all_eq_true_iff_forall_mem.1 ht e he
        simp only [hb, Bool.not_true, Bool.false_or, decide_eq_true_eq] at ht
        exact ⟨this.1, by rw [← hon]; exact hall e he hb, by rw [← hon]; exact ht⟩
      have hget : ∀ x : Nat × Tmp, x ∈ js → ((Vs.take i).getD x.1 Qv.any).p vs (a.eval (.tmp x.2)) w := fun x hx => by
        obtain ⟨h1, h2, h3⟩ := hjs x hx
        have hxl : x.1 < Vs.length := by omega
        have h4 : Vs[x.1]? = some Vs[x.1] := List.getElem?_eq_getElem hxl
        have h5 := inv.known x.1 _ h2 h4
        rw [h1] at h5
        have : (Vs.take i).getD x.1 Qv.any = Vs[x.1] := by
          rw [List.getD_eq_getElem?_getD, List.getElem?_take, if_pos h3, h4]
          rfl
        rw [this]
        exact h5
      obtain ⟨hk0, hk1, hk2⟩ := inv.cls
      have hlk : ∀ t ∈ o.looksAt l.toArray, (onto a (js.map fun x => some x.2) a0).tmps[t]? = a.tmps[t]? := fun t ht => by
        refine onto_at a t _ _ inv.tsize.symm ?_
        have h1 : (o.looksAt l.toArray).all (fun t => js.any (·.2 == t) || keptB l.toArray n i t) = true := by
          simpa only [lookB, ho, Option.map_some, Option.getD_some] using hlook
        have h2 := List.all_eq_true.1 h1 t ht
        simp only [Bool.or_eq_true] at h2
        rcases h2 with h2 | h2
        · left
          obtain ⟨x, hx, hxt⟩ := List.any_eq_true.1 h2
          exact List.mem_map.2 ⟨x, hx, by rw [beq_iff_eq.1 hxt]⟩
        · right
          refine (inv.rest t fun j hj hD e => ?_).symm
          have h3 := list_all_range h2 hj
          simp only [Bool.or_eq_true, bne_iff_ne, ne_eq, beq_iff_eq] at h3
          rcases h3 with (h3 | h3) | h3
          · exact h3 e
          · obtain ⟨oj, hoj, e', he', hb', hon⟩ := Region.waitsFor_spec h3
            have := inv.head.closed j oj hoj hD e' he' hb'
            rw [hon, getD_both hu] at this
            cases this
          · subst h3
            rw [getD_both hu] at hD
            cases hD
      obtain ⟨T, hA, hS⟩ : ∃ T : Value → World → Prop, Ask' P l.toArray vs (Vs.take i) (ToldL T o.dst a0.defers) o w js a0 ∧ (∀ v w', T v w' → ∃ vs2, V.p vs2 v w' ∧ (∀ (W : Qv L) (j : Nat), D.getD j false = true → Vs[j]? = some W → ∀ {u : Value}, W.p vs u w → W.p vs2 u w') ∧ Cls L late vs2 (D.setIfInBounds i true) w') := by
        rcases hask with ⟨hnl', _, hA⟩ | ⟨q, hq, hVq, hA⟩
        · have hne : ∀ q i', late[q]? = some i' → i ≠ i' := fun q i' hq e => by
            subst e
            have := List.contains_iff_mem.2 (List.mem_of_getElem? hq)
            rw [hnl'] at this
            cases this
          exact ⟨_, hA vs w hk1, fun v w' hg => ⟨vs, hg.1, fun W j _ _ _ hp => W.st hp hg.2, hk0, L.g hk1 hg.2, fun q i' hq => by rw [getD_set_ne false (hne q i' hq)]; exact hk2 q i' hq⟩⟩
        · have hDi : D.getD i false = false := getD_both hu
          have h1 : ¬ q < vs.length := fun h => by have := (hk2 q i hq).2 h; rw [hDi] at this; cases this
          have h2 : q ≤ vs.length := by
            cases q with
            | zero => omega
            | succ q =>
              have hql : q < late.length := by have := (List.getElem?_eq_some_iff.1 hq).1; omega
              have hw := hchain q (by have := (List.getElem?_eq_some_iff.1 hq).1; omega) i hq late[q] (List.getElem?_eq_getElem hql)
              obtain ⟨oj, hoj, e, he, hb, hon⟩ := Region.waitsFor_spec hw
              obtain rfl : o = oj := Option.some.inj (ho.symm.trans hoj)
              have h3 := hall e he hb
              rw [hon] at h3
              have := (hk2 q _ (List.getElem?_eq_getElem hql)).1 h3
              omega
          obtain rfl : q = vs.length := by omega
          refine ⟨_, hA vs w rfl hk1, fun v w' hg => ⟨vs ++ [v], (by rw [hVq]; show (vs ++ [v])[vs.length]? = some v; simp), fun W j hj hW _ hp => W.sr ?_ hk1 hg.1 hp, by rw [List.length_append]; exact (List.getElem?_eq_some_iff.1 hq).1, hg.2, fun q' i' hq' => ?_⟩⟩
          · rcases hfr j W hW with ⟨_, h4⟩ | ⟨q', hq', h4⟩
            · rw [h4]; exact Nat.zero_le _
            · have := (hk2 q' j hq').1 hj
              omega
          · by_cases e : i = i'
            · subst e
              have hqq : q' = vs.length := by
                have h5 := (List.getElem?_eq_some_iff.1 hq').1
                skip
                exact (List.getElem?_inj h5 hnd).1 (hq'.trans hq.symm)
              have hlt : i < D.size := by
                rw [inv.head.size]
                exact (Array.getElem?_eq_some_iff.1 ho).1
              simp [hlt, hqq]
            · rw [getD_set_ne false e, hk2 q' i' hq']
              have : q' ≠ vs.length := fun e' => e (by rw [e', hq] at hq'; exact Option.some.inj hq')
              simp only [List.length_append, List.length_singleton]
              omega
      have hW := Ask'.all (b := a) hget hA
      have hop := toldL_op (Q := Q) (ops := l.toArray) (a0 := a0) (a := a) (Region.noSelect_spec hsel i o · · ho) hdst ((onto_size _ _ _).trans inv.tsize.symm) hlk ho (onto_defers _ _ _) hW
      refine wpOp_mono (fun a' w' hk => ?_) hop
      obtain ⟨v, ha, hT⟩ := hk
      obtain ⟨vs2, hv, hs, hcl⟩ := hS _ w' hT
      exact ih vs2 _ a' w' (linv_step inv hdist hi hin ho hV (by omega) ha hv hs hcl) (by have := (cnt_set (D := D) (i := i) n).2 hin hu; omega)
  have h0 := key n [] (Array.replicate l.toArray.size false) a0 w0 ⟨⟨by simp, (fun j oj _ hD => by rw [getD_replicate_false] at hD; cases hD), fun t _ ht => by simp only [List.size_toArray] at ht ⊢; simp [ht]⟩, ⟨Nat.zero_le _, hC0, fun q i hq => by rw [getD_replicate_false]; simp⟩, rfl, rfl, fun _ _ => rfl, (fun j V hD => by rw [getD_replicate_false] at hD; cases hD)⟩ (cnt_false _ n)
  rwa [show n + (l.toArray.size - n) = l.toArray.size by omega] at h0
/-- One operation that is carried out .. -/
theorem askl_do {T : Value → World → Prop} {ds : List Deferred} {o : Oper} {a : Act} {w : World} (hw : Region.wanted o (yielded ops a.tmps) = true)
    (h : ∀ K' : Act → World → Prop, (∀ a' w', a'.defers = ds → T (match o.dst with | some d => a'.eval (.tmp d) | none => undef) w' → K' a' w') → o.wp P a w K' (ToldL T o.dst ds)) : wpList P ops (ToldL T o.dst ds) [o] a w := by
  unfold wpList
  rw [if_pos hw]
  exact .inl (h _ fun a' w' h1 h2 => ⟨rfl, h1, h2⟩)
/-- .. or is not. -/
theorem askl_skip {T : Value → World → Prop} {ds : List Deferred} {o : Oper} {a : Act} {w : World} (hw : Region.wanted o (yielded ops a.tmps) = false) (h1 : (a.put o.dst undef).defers = ds) (h2 : T (match o.dst with | some d => (a.put o.dst undef).eval (.tmp d) | none => undef) w) : wpList P ops (ToldL T o.dst ds) [o] a w := by
  unfold wpList
  rw [if_neg (by rw [hw]; simp)]
  exact ⟨rfl, h1, h2⟩
/-- What is behind them. -/
def FinL (P : Program) (ops : Array Oper) (Q : Exit → Act → World → Prop) (vs : List Value) (w : World) : List (Qv L) → List Oper → Act → Prop
  | V :: Vs, o :: os, a => ∀ x, V.p vs x w → FinL P ops Q vs w Vs os (a.put o.dst x)
  | _, os, a => wpList P ops Q os a w
theorem FinL.cut {vs : List Value} {w : World} : ∀ {Vs : List (Qv L)} {os : List Oper} {a : Act}, Vs.length ≤ os.length → FinL P ops Q vs w Vs os a → FinL' (fun a w => wpList P ops Q (os.drop Vs.length) a w) vs w Vs (os.take Vs.length) a
  | [], os, a, _, h => by
    have h : wpList P ops Q os a w := by cases os <;> exact h
    exact h
  | V :: Vs, [], a, hl, _ => by simp at hl
  | V :: Vs, o :: os, a, hl, h => fun x hx => FinL.cut (Vs := Vs) (os := os) (by simpa using hl) (h x hx)
theorem LateR.weak {F G : List (Qv L) → Prop} : ∀ {k : Nat} {Rs : List (Qv L)} {os : List Oper}, LateR L late P ops n a0 F k Rs os → (∀ Ws, Ws.length = Rs.length + k → F Ws → G Ws) → LateR L late P ops n a0 G k Rs os
  | 0, Rs, _, h, hg => hg _ (by simp) h
  | _ + 1, _, [], h, _ => h.elim
  | k + 1, Rs, o :: os, ⟨V, js, hb, hA, hM⟩, hg => ⟨V, js, hb, hA, LateR.weak hM fun Ws hW => hg Ws (by simp at hW ⊢; omega)⟩
theorem wpAny_lateR {l : List Oper} (n : Nat) (hB : monoB l.toArray n a0.tmps.size = true) (hBl : lateB l.toArray n late = true) (hC0 : L.C [] w0)
    (h : LateR L late P l.toArray n a0 (fun Vs => ∀ vs w, vs.length = late.length → L.C vs w → FinL P l.toArray Q vs w Vs l a0) n [] l) : wpAny P .any l.toArray Q l.toArray.size (Array.replicate l.toArray.size false) a0 w0 := by
  refine wpAny_late n hB hBl hC0 (LateR.weak h fun Ws hW hF vs w hvl hw => ?_)
  have hn := (LateR.out h).1
  have hl : Ws.length = n := by simpa using hW
  have := FinL.cut (by rw [hl]; exact hn) (hF vs w hvl hw)
  rwa [hl] at this
theorem wp_region_late {l : List Oper} {id : Nat} (L : Lt) (late : List Nat) (n : Nat) (hm : P.follows .mixedOrders = true) (hB : monoB l.toArray n a0.tmps.size = true) (hBl : lateB l.toArray n late = true) (hC0 : L.C [] w0.drew)
    (h : LateR L late P l.toArray n a0 (fun Vs => ∀ vs w, vs.length = late.length → L.C vs w → FinL P l.toArray Q vs w Vs l a0) n [] l) : (Code.region id l.toArray true).wp P Q a0 w0 :=
  wp_region_any hm (wpAny_lateR n hB hBl hC0 h)
end
end Go.Proofs.YtiimippmihkgcaaGreatDoor

namespace Go.Proofs.YtiimippmihkgcaaGreatDoor
open Go Go.RowKit Go.Shelf

attribute [local go_sem] Oper.semAt_some
theorem info_i64 : (Tryz.prog.info? 2).map (fun i => (i.zero, i.size, i.bytes)) = some (some (.int .i64 0), 1, 8) := by kernel_rfl
theorem info_i64s : (Tryz.prog.info? 25).map (fun i => (i.zero, i.size, i.bytes)) = some (some (.slice none 0 0), 1, 24) := by kernel_rfl
theorem el_i64 : ElemOk Tryz.prog 25 2 1 8 := ElemOk.mk' (by decide) Tryz.underlying25 info_i64 rfl
theorem el_i64s : ElemOk Tryz.prog 28 25 1 24 := ElemOk.mk' (by decide) Tryz.underlying28 info_i64s rfl
/-- Two lists built side by side. -/
structure Side {α β : Type} (E : Enc α) (F : Enc β) (base : Nat) (e f : TypeId) (Z : Nat → Prop) (w : World) (v u : Value) (xs : List α) (ys : List β) : Prop where
  fst : Acc E base e (fun g => Z g ∧ some g ≠ u.ownBlock) w v xs
  snd : Acc F base f (fun g => Z g ∧ some g ≠ v.ownBlock) w u ys
section
variable {α β : Type} {E : Enc α} {F : Enc β} {base : Nat} {e f : TypeId} {Z : Nat → Prop} {w w' : World} {v u v' u' : Value} {xs xs' : List α} {ys ys' : List β}
theorem Side.kept (h : Side E F base e f Z w v u xs ys) (hg : w.grownBy w' none) : Side E F base e f Z w' v u xs ys := ⟨h.fst.kept hg, h.snd.kept hg⟩
theorem Side.swap (h : Side E F base e f Z w v u xs ys) : Side F E base f e Z w u v ys xs := ⟨h.snd, h.fst⟩
theorem Side.one (h : Side E F base e f Z w v u xs ys) (ha : Acc E base e (fun g => Z g ∧ some g ≠ u.ownBlock) w' v' xs') (hg : w.grownBy w' v.ownBlock) (hm : Moved w v v') : Side E F base e f Z w' v' u xs' ys := by
  refine ⟨ha, ?_⟩
  have h1 : Acc F base f (fun g => (Z g ∧ some g ≠ v'.ownBlock) ∧ some g ≠ v.ownBlock) w u ys := h.snd.more fun g hg hx => ⟨⟨hx.1, fun e => hm.ne hg (fun e' => hx.2 e'.symm) e.symm⟩, hx.2⟩
  exact (h1.keep hg fun g hx => hx.2).more fun g _ hx => hx.1
theorem Side.two (h : Side E F base e f Z w v u xs ys) (ha : Acc F base f (fun g => Z g ∧ some g ≠ v.ownBlock) w' u' ys') (hg : w.grownBy w' u.ownBlock) (hm : Moved w u u') : Side E F base e f Z w' v u' xs ys' := (h.swap.one ha hg hm).swap
theorem Side.new1 (h : Side E F base e f Z w v u xs ys) (hZ : ∀ g, w.heap.size ≤ g → Z g) : ∀ g, w.heap.size ≤ g → Z g ∧ some g ≠ u.ownBlock := fun g hg => ⟨hZ g hg, fun e => by have := (h.snd.lt g e.symm).2; omega⟩
theorem Side.new2 (h : Side E F base e f Z w v u xs ys) (hZ : ∀ g, w.heap.size ≤ g → Z g) : ∀ g, w.heap.size ≤ g → Z g ∧ some g ≠ v.ownBlock := fun g hg => ⟨hZ g hg, fun e => by have := (h.fst.lt g e.symm).2; omega⟩
end
/-- A number that is out of range. -/
def outB (p : Par) (x : Int) : Bool := decide (fixI x p.Q < wrap64 (-p.M)) || decide (fixI x p.Q > p.M)
/-- What is wrong with a model's secrets. -/
def modelE (p : Par) (l : List Int) : Int := if smallB p && decide (1 ≤ p.K ∧ 1 ≤ p.D) && (l.length : Int) == secretsI p then if l.any (outB p) then 20 else 0 else 4
def rowW (p : Par) (d : Nat) (r : List Int) : List Int := (r.take d).map fun x => fixI x p.Q
def rowB (p : Par) (d : Nat) (r : List Int) : Int := fixI (r[d]?.getD 0) p.Q
def modelW (p : Par) (l : List Int) : List (List Int) := if modelE p l = 0 then (chk (p.D + 1).toNat l p.K.toNat).map (rowW p p.D.toNat) else []
def modelB (p : Par) (l : List Int) : List Int := if modelE p l = 0 then (chk (p.D + 1).toNat l p.K.toNat).map (rowB p p.D.toNat) else []
/-- A call that told a model, and what is wrong. -/
def GivesM (Y : Nat → Prop) (w : World) (W : List (List Int)) (B : List Int) (n : Int) (e : Ending) (w' : World) : Prop := ∃ v u, e = .returned (.tuple #[.agg #[v, u], .int .i64 n]) ∧ Sl (encW encI) Y w' v W ∧ Sl encI Y w' u B ∧ (B ≠ [] → Wr Y w' u) ∧ w.grownBy w' none
theorem results_model {fn : Func} {W : World} {B4 B5 : Nat} {vW vB : Value} {n : Int} (h : fn.results = #[.cell 4 30, .cell 5 36]) (tmps : Array Value) (h4 : tmps.getD 4 undef = .pointer (some ⟨B4, 0, none⟩)) (h5 : tmps.getD 5 undef = .pointer (some ⟨B5, 0, none⟩))
    (hb4 : Bk W B4 30 #[vW, vB]) (hb5 : Bk W B5 36 #[.int .i64 n]) : (results fn tmps).run Tryz.prog W = .ok (.tuple #[.agg #[vW, vB], .int .i64 n]) W := by
  have c0 := hb5.cell 0
  simp at c0
  have r1 := run_loadVar_row (P := Tryz.prog) W B4 30 30 #[vW, vB] (0, 0) _ hb4 Tryz.underlying30 rfl (by kernel_rfl)
  have r2 : (loadVar 36 ⟨B5, 0, none⟩).run Tryz.prog W = .ok (.int .i64 n) W := by
    simp [loadVar, isAgg, Sem.run_bind, run_underlying Tryz.underlying36 W, load, go_sem]
    simp [Sem.run, c0]
  have h4' : tmps[4]?.getD undef = .pointer (some ⟨B4, 0, none⟩) := by simpa using h4
  have h5' : tmps[5]?.getD undef = .pointer (some ⟨B5, 0, none⟩) := by simpa using h5
  simp [results, h, h4', h5', asAddr, r1, r2]
theorem Side.keep {α β : Type} {E : Enc α} {F : Enc β} {base : Nat} {e f : TypeId} {Z : Nat → Prop} {w w' : World} {v u : Value} {xs : List α} {ys : List β} {row : Option Nat} (h : Side E F base e f Z w v u xs ys) (hg : w.grownBy w' row) (hZ : ∀ g, Z g → some g ≠ row) : Side E F base e f Z w' v u xs ys := ⟨h.fst.keep hg fun g hx => hZ g hx.1, h.snd.keep hg fun g hx => hZ g hx.1⟩
theorem Side.keepc {α β : Type} {E : Enc α} {F : Enc β} {base : Nat} {e f : TypeId} {Z : Nat → Prop} {w w' : World} {v u : Value} {xs : List α} {ys : List β} {row : Option Nat} (h : Side E F base e f Z w v u xs ys) (hg : w.grownBy w' row) (hr : ∀ r, row = some r → ∃ o : Obj, w.heap[r]? = some o ∧ o.isCells = false) : Side E F base e f Z w' v u xs ys := ⟨h.fst.keepc hg hr, h.snd.keepc hg hr⟩
theorem Wr.reslice {X : Nat → Prop} {w : World} {A : Option Addr} {n c n' c' : Nat} (h : Wr X w (.slice A n c)) : Wr X w (.slice A n' c') := by
  obtain ⟨g, o, _, _, e, h⟩ := h
  injection e with e1 _ _
  subst e1
  exact ⟨g, o, n', c', rfl, h⟩
theorem cellK {w w' : World} {g o : Nat} {u : Value} {row : Option Nat} (h : w.cell? ⟨g, o, none⟩ = some u) (hg : w.grownBy w' row) (hne : some g ≠ row) : w'.cell? ⟨g, o, none⟩ = some u := (World.cell?_of_block (w := w) (hg.block g (block_lt_of_cell h) hne)).trans h
/-- A slice of one thing in a block made since n. -/
def BlkQ (n : Nat) (t : TypeId) (u v : Value) (w : World) : Prop := ∃ b, v = .slice (some ⟨b, 0, none⟩) 1 1 ∧ n ≤ b ∧ Bk w b t #[u]
abbrev SideM (base : Nat) (w : World) (v u : Value) (xs : List (List Int)) (ys : List Int) : Prop := Side (encW encI) encI base 25 2 (fun g => base ≤ g) w v u xs ys
/-- Where the worlds stand while a row is put to the model. -/
def mLt (base : Nat) (W wd : World) (vW vB : Value) (g8 d : Nat) (bv : Int) (xsW : List (List Int)) (xsB : List Int) (yW : List Int) : Lt where
  C vs w := Below base W w ∧ KeepsOthers W w ∧ wd.heap.size ≤ w.heap.size ∧ base ≤ w.heap.size ∧ w.cell? ⟨g8, d, none⟩ = some (.int .i64 bv) ∧
    match vs with
    | [] => wd.grownBy w none
    | [u] => SideM base w u vB (xsW ++ [yW]) xsB
    | [u, u2] => SideM base w u u2 (xsW ++ [yW]) (xsB ++ [bv])
    | _ => False
  R q w w' := w.grownBy w' (if q = 0 then vW.ownBlock else vB.ownBlock)
  g := fun {vs w w'} h hg => by
    obtain ⟨h1, h2, h3, h4, h5, h6⟩ := h
    refine ⟨h1.grown hg h4 (by simp), h2.trans (keeps_none hg), Nat.le_trans h3 hg.size, Nat.le_trans h4 hg.size, cellK h5 hg (by simp), ?_⟩
    match vs, h6 with
    | [], h6 => exact h6.trans hg
    | [u], h6 => exact h6.kept hg
    | [u, u2], h6 => exact h6.kept hg
def blkQ {base : Nat} {W wd : World} {vW vB : Value} {g8 d : Nat} {bv : Int} {xsW : List (List Int)} {xsB : List Int} {yW : List Int} (hW : ∀ g, vW.ownBlock = some g → g < wd.heap.size) (hB : ∀ g, vB.ownBlock = some g → g < wd.heap.size) (t : TypeId) (u : Value) : Qv (mLt base W wd vW vB g8 d bv xsW xsB yW) where
  p _ v w := BlkQ wd.heap.size t u v w
  fr := 0
  st := fun ⟨b, e, hb, hk⟩ hg => ⟨b, e, hb, hk.grown hg (by simp)⟩
  sr := fun {vs _ v w w'} _ _ hR ⟨b, e, hb, hk⟩ => by
    refine ⟨b, e, hb, hk.grown hR fun e => ?_⟩
    split at e
    · have := hW b e.symm; omega
    · have := hB b e.symm; omega
section
variable {base : Nat} {W wd w' w3 : World} {vW vB u v3 : Value} {g8 d : Nat} {bv : Int} {xsW : List (List Int)} {xsB : List Int} {yW : List Int}
theorem mLt_one (hC : (mLt base W wd vW vB g8 d bv xsW xsB yW).C [] w') (hS : SideM base wd vW vB xsW xsB) (ha : Acc (encW encI) base 25 (fun g => base ≤ g ∧ some g ≠ vB.ownBlock) w3 v3 (xsW ++ [yW])) (hgr : w'.grownBy w3 vW.ownBlock) (hm : Moved w' vW v3) (h8 : some g8 ≠ vW.ownBlock) : (mLt base W wd vW vB g8 d bv xsW xsB yW).C [v3] w3 := by
  obtain ⟨h1, h2, h3, h4, h5, h6⟩ := hC
  have hS' := hS.kept h6
  exact ⟨h1.grown hgr h4 (fun k e => (hS'.fst.lt k e).1), h2.trans (hS'.fst.keeps hgr), Nat.le_trans h3 hgr.size, Nat.le_trans h4 hgr.size, cellK h5 hgr h8, hS'.one ha hgr hm⟩
theorem mLt_two (hC : (mLt base W wd vW vB g8 d bv xsW xsB yW).C [u] w') (ha : Acc encI base 2 (fun g => base ≤ g ∧ some g ≠ u.ownBlock) w3 v3 (xsB ++ [bv])) (hgr : w'.grownBy w3 vB.ownBlock) (hm : Moved w' vB v3) (h8 : some g8 ≠ vB.ownBlock) : (mLt base W wd vW vB g8 d bv xsW xsB yW).C [u, v3] w3 := by
  obtain ⟨h1, h2, h3, h4, h5, h6⟩ := hC
  have hS' : SideM base w' u vB (xsW ++ [yW]) xsB := h6
  exact ⟨h1.grown hgr h4 (fun k e => (hS'.snd.lt k e).1), h2.trans (hS'.snd.keeps hgr), Nat.le_trans h3 hgr.size, Nat.le_trans h4 hgr.size, cellK h5 hgr h8, hS'.two ha hgr hm⟩
end
/-- What stands between two rounds. -/
structure MI (p : Par) (d base B6 Ba Bb : Nat) (va : Value) (m : Nat) (w : World) (rows : List (List Int)) (W : World) : Prop where
  box : ∃ vW vB, Bk W B6 30 #[vW, vB] ∧ SideM base W vW vB (rows.map (rowW p d)) (rows.map (rowB p d))
  ok : ∀ r ∈ rows, ∀ y ∈ r, outB p y = false
  par : Bk W w.heap.size 24 p.cells
  r4 : Bk W (w.heap.size + 1) 30 #[.slice none 0 0, .slice none 0 0]
  r5 : Bk W (w.heap.size + 1 + 1) 36 #[.int .i64 0]
  bel : Below w.heap.size w W
  ba : Boxed W Ba 39 va
  bb : Boxed W Bb 3 (.int .i64 m)
structure MX (p : Par) (l : List Int) (w : World) (c : Code) (W : World) : Prop where
  ret : c = .ret
  bad : l.any (outB p) = true
  r4 : Bk W (w.heap.size + 1) 30 #[.slice none 0 0, .slice none 0 0]
  r5 : Bk W (w.heap.size + 1 + 1) 36 #[.int .i64 20]
  bel : Below w.heap.size w W
theorem bkNe {W : World} {g : Nat} {t : TypeId} {u : Value} {cs : List Value} (h : Bk W g t (u :: cs).toArray) {row : Option Nat} (hr : ∀ r, row = some r → ∃ o : Obj, W.heap[r]? = some o ∧ o.isCells = false) : some g ≠ row := cell_ne (u := u) (by have := h.cell 0; simpa using this) hr
theorem grownSet (w : World) (g o : Nat) (v : Value) : w.grownBy (w.setCell ⟨g, o, none⟩ v) (some g) := ⟨rfl, rfl, rfl, by simp [World.setCell], fun k _ hne => Below.heap_setCell w ⟨g, o, none⟩ v k (fun e => hne (by rw [e]))⟩
theorem grownSetUp {w w1 : World} (h : w.grownBy w1 none) {g : Nat} (o : Nat) (v : Value) (hg : w.heap.size ≤ g) : w.grownBy (w1.setCell ⟨g, o, none⟩ v) none := grown_up h (grownSet w1 g o v) (fun k e => by injection e with e; omega)
theorem MI.own {p : Par} {d base B6 Ba Bb : Nat} {va : Value} {m : Nat} {w : World} {rows : List (List Int)} {X Y : World} {row : Option Nat} (h : MI p d base B6 Ba Bb va m w rows X) (hg : X.grownBy Y row) (hr : ∀ r, row = some r → ∃ o : Obj, X.heap[r]? = some o ∧ o.isCells = false) (hrB : ∀ r, row = some r → w.heap.size ≤ r) : MI p d base B6 Ba Bb va m w rows Y := by
  obtain ⟨⟨vW, vB, k1, k2⟩, k3, k4, k5, k6, k7, k8, k9⟩ := h
  exact ⟨⟨vW, vB, k1.grown hg (bkNe k1 hr), k2.keepc hg hr⟩, k3, k4.grown hg (cell_ne (k4.cell 0) hr), k5.grown hg (bkNe k5 hr), k6.grown hg (bkNe k6 hr), k7.grown hg k7.size hrB, k8.kept hg (boxNe k8 hr), k9.kept hg (boxNe k9 hr)⟩
theorem MX.own {p : Par} {l : List Int} {w : World} {c : Code} {X Y : World} {row : Option Nat} (h : MX p l w c X) (hg : X.grownBy Y row) (hr : ∀ r, row = some r → ∃ o : Obj, X.heap[r]? = some o ∧ o.isCells = false) (hrB : ∀ r, row = some r → w.heap.size ≤ r) : MX p l w c Y := by
  obtain ⟨k1, k2, k5, k6, k7⟩ := h
  exact ⟨k1, k2, k5.grown hg (bkNe k5 hr), k6.grown hg (bkNe k6 hr), k7.grown hg k7.size hrB⟩
theorem gives_noM {w w' : World} {W : List (List Int)} {B : List Int} {n k : Int} (h : n = k ∧ W = [] ∧ B = []) (hg : w.grownBy w' none) : GivesM (fun g => w.heap.size ≤ g) w W B n (.returned (.tuple #[.agg #[.slice none 0 0, .slice none 0 0], .int .i64 k])) w' := by
  obtain ⟨rfl, rfl, rfl⟩ := h
  exact ⟨_, _, rfl, Sl.nil _ _ _, Sl.nil _ _ _, fun h => absurd rfl h, hg⟩
abbrev noW (w w1 : World) (n : Int) : World := ((w1.setCell ⟨w.heap.size + 1, 0, none⟩ (.slice none 0 0)).setCell ⟨w.heap.size + 1, 1, none⟩ (.slice none 0 0)).setCell ⟨w.heap.size + 1 + 1, 0, none⟩ (.int .i64 n)
theorem noW_4 {w w1 : World} {a b : Value} (h : Bk w1 (w.heap.size + 1) 30 #[a, b]) (n : Int) : Bk (noW w w1 n) (w.heap.size + 1) 30 #[.slice none 0 0, .slice none 0 0] := ((h.set 0 _).set 1 _).far (by simp) _
theorem noW_5 {w w1 : World} {a : Value} (h : Bk w1 (w.heap.size + 1 + 1) 36 #[a]) (n : Int) : Bk (noW w w1 n) (w.heap.size + 1 + 1) 36 #[.int .i64 n] := ((h.far (by simp) _).far (by simp) _).set 0 _
theorem noW_g {w w1 : World} (h : w.grownBy w1 none) (n : Int) : w.grownBy (noW w w1 n) none := grownSetUp (grownSetUp (grownSetUp h _ _ (by omega)) _ _ (by omega)) _ _ (by omega)
theorem Sl.shape {α : Type} {E : Enc α} {X : Nat → Prop} {w : World} {v : Value} {xs : List α} (h : Sl E X w v xs) : ∃ A n c, v = .slice A n c := by
  obtain ⟨A, c, e, _, _⟩ := h.form
  exact ⟨_, _, _, e⟩
theorem fixI_I64 (x q : Int) (hq : U64 q) : I64 (fixI x q) := by
  unfold fixI
  split
  · exact ⟨by decide, by decide⟩
  · cases hm : mayB q with
    | false =>
      have : addI x 0 q = 0 := by simp [addI, hm]
      rw [this]
      have h1 := hq.1
      split <;> constructor <;> omega
    | true =>
      have h1 := addI_bd x 0 q hm
      simp [mayB] at hm
      split <;> constructor <;> omega
theorem Acc.form0 {α : Type} {E : Enc α} {base : Nat} {e : TypeId} {X : Nat → Prop} {w : World} {v : Value} {xs : List α} (h : Acc E base e X w v xs) (hn : 0 < xs.length) : ∃ g c, v = .slice (some ⟨g, 0, none⟩) xs.length c ∧ base ≤ g ∧ g < w.heap.size ∧ xs.length ≤ c ∧ c ≤ 9223372036854775807 := by
  have hlt := h.lt
  obtain ⟨A, c, e0, hc1, hc2⟩ := h.sl.form
  obtain ⟨hb, css, h1, h2, h3⟩ := h
  rcases h3.2 with ⟨hv, h0⟩ | ⟨g, cap, cur, hv, _, hh, _⟩
  · omega
  · have hg := hlt g (by rw [hv]; rfl)
    rw [hv] at e0
    injection e0 with _ _ e3
    subst e3
    exact ⟨g, cap, hv, hg.1, hg.2, hc1, hc2⟩
def rowsOf {X : Nat → Prop} {w₀ : World} {l : List Int} {m : Nat} (pre : List (CK X w₀ l m)) : List (List Int) := pre.map fun x => x.1.2
theorem chk_flatten {α : Type} (m : Nat) : ∀ (k : Nat) (l : List α), 1 ≤ m → l.length = k * m → (chk m l k).flatten = l
  | 0, l, _, h => by
    have : l = [] := List.eq_nil_of_length_eq_zero (by omega)
    subst this
    rfl
  | k + 1, l, hm, h => by
    rw [chk_succ, List.flatten_append]
    have h1 : chk m l k = chk m (l.take (k * m)) k := by
      unfold chk
      refine List.map_congr_left fun j hj => ?_
      have hjk : j < k := List.mem_range.1 hj
      have h7 : (j + 1) * m ≤ k * m := Nat.mul_le_mul_right m hjk
      rw [Nat.add_mul, Nat.one_mul] at h7
      rw [List.drop_take, List.take_take]
      congr 1
      omega
    rw [Nat.add_mul, Nat.one_mul] at h
    rw [h1, chk_flatten m k (l.take (k * m)) hm (by rw [List.length_take]; omega)]
    simp only [List.flatten_cons, List.flatten_nil, List.append_nil]
    rw [List.take_of_length_le (l := l.drop (k * m)) (by rw [List.length_drop]; omega), List.take_append_drop]
set_option maxRecDepth 100000 in
set_option maxHeartbeats 4000000 in
theorem smodel_any (p : Par) (vl : Value) (l : List Int) (X : Nat → Prop) (w : World) (hp : p.ok) (hl : Sl encU X w vl l) (_hb : l.length ≤ 100000) :
    Calls Tryz.prog 19 #[p.v, vl] w (GivesM (fun g => w.heap.size ≤ g) w (modelW p l) (modelB p l) (modelE p l)) := by
  have HS1 := Lib.hid (ssmall_any p)
  have HSE := Lib.hid (ssecrets_any p)
  have HL := Lib.hid hl
  have HQ := Lib.hid hp.Q
  obtain ⟨A, c, rfl, hc1, hc2⟩ := hl.form
  clear hl
  have HB0 : Hid (Bk (((w.alloc (.cells p.cells 24)).alloc (.cells #[.slice none 0 0, .slice none 0 0] 30)).alloc (.cells #[.int .i64 0] 36)) w.heap.size 24 p.cells) := Lib.hid (((Bk.new w _ _).alloc _).alloc _)
  have HB4 : Hid (Bk (((w.alloc (.cells p.cells 24)).alloc (.cells #[.slice none 0 0, .slice none 0 0] 30)).alloc (.cells #[.int .i64 0] 36)) (w.heap.size + 1) 30 #[.slice none 0 0, .slice none 0 0]) := Lib.hid (by
    have h := (Bk.new (w.alloc (.cells p.cells 24)) 30 #[.slice none 0 0, .slice none 0 0]).alloc (.cells #[.int .i64 0] 36)
    rw [World.size_alloc] at h
    exact h)
  have HB5 : Hid (Bk (((w.alloc (.cells p.cells 24)).alloc (.cells #[.slice none 0 0, .slice none 0 0] 30)).alloc (.cells #[.int .i64 0] 36)) (w.heap.size + 1 + 1) 36 #[.int .i64 0]) := Lib.hid (by
    have h := Bk.new ((w.alloc (.cells p.cells 24)).alloc (.cells #[.slice none 0 0, .slice none 0 0] 30)) 36 #[.int .i64 0]
    rw [World.size_alloc, World.size_alloc] at h
    exact h)
  have HG0 : Hid (w.grownBy (((w.alloc (.cells p.cells 24)).alloc (.cells #[.slice none 0 0, .slice none 0 0] 30)).alloc (.cells #[.int .i64 0] 36)) none) := Lib.hid ((World.grownBy_alloc w _ none).trans grown_two)
  refine (callsIn_wide (n := 12)).1 ?_
  refine callsIn_of_wp_marks Tryz.func19 rfl trivial ?_ rfl
  simp only [Tryz.ntmps19, List.size_toArray, List.length_cons, List.length_nil, Nat.reduceAdd, Nat.reduceSub, Array.replicate_succ, Array.replicate_zero, List.push_toArray, List.append_toArray, List.nil_append, List.cons_append]
  cases b1 : smallB p with
  | false =>
    have h1 : modelE p l = 4 := by simp [modelE, b1]
    have HE : Hid (modelE p l = 4 ∧ modelW p l = [] ∧ modelB p l = []) := Lib.hid (by simp [modelW, modelB, h1])
    rw [b1] at HS1
    clear h1 b1
    generalize l.length = n at *
    refine wpIn_wide.2 ?_
    go_wp2_with fail
    refine (HS1.out _).mono ?_
    rintro e w1 ⟨rfl, hg1⟩
    have HK0 := Lib.hid (HB0.out.grown hg1 (by simp))
    have HK4 := Lib.hid (HB4.out.grown hg1 (by simp))
    have HK5 := Lib.hid (HB5.out.grown hg1 (by simp))
    have HG1 := Lib.hid (HG0.out.trans hg1)
    have hp1 := HK0.out.prule
    have c40 := HK4.out.cell 0
    have c41 := HK4.out.cell 1
    have c50 := HK5.out.cell 0
    have f4 := HK4.out.free
    have f5 := HK5.out.free
    simp at c40 c41 c50
    clear hg1
    have HK4' := Lib.hid (noW_4 HK4.out 4)
    have HK5' := Lib.hid (noW_5 HK5.out 4)
    have HG4 := Lib.hid (noW_g HG1.out 4)
    go_wp2_with fail
    exact ⟨_, results_model rfl _ rfl rfl HK4'.out HK5'.out, gives_noM HE.out HG4.out⟩
  | true =>
    rw [b1] at HS1
    by_cases h0 : 1 ≤ p.K ∧ 1 ≤ p.D
    case neg =>
      have h1 : modelE p l = 4 := by unfold modelE; rw [if_neg (by simp; omega)]
      have HE : Hid (modelE p l = 4 ∧ modelW p l = [] ∧ modelB p l = []) := Lib.hid (by simp [modelW, modelB, h1])
      have hm : decide (min p.K p.D < 1) = true := by simp; omega
      clear h1 b1 h0
      generalize l.length = n at *
      refine wpIn_wide.2 ?_
      go_wp2_with fail
      refine (HS1.out _).mono ?_
      rintro e w1 ⟨rfl, hg1⟩
      have HK0 := Lib.hid (HB0.out.grown hg1 (by simp))
      have HK4 := Lib.hid (HB4.out.grown hg1 (by simp))
      have HK5 := Lib.hid (HB5.out.grown hg1 (by simp))
      have HG1 := Lib.hid (HG0.out.trans hg1)
      have hp1 := HK0.out.prule
      have c40 := HK4.out.cell 0
      have c41 := HK4.out.cell 1
      have c50 := HK5.out.cell 0
      have f4 := HK4.out.free
      have f5 := HK5.out.free
      simp at c40 c41 c50
      clear hg1
      have HK4' := Lib.hid (noW_4 HK4.out 4)
      have HK5' := Lib.hid (noW_5 HK5.out 4)
      have HG4 := Lib.hid (noW_g HG1.out 4)
      go_wp2_with fail
      exact ⟨_, results_model rfl _ rfl rfl HK4'.out HK5'.out, gives_noM HE.out HG4.out⟩
    case pos =>
      have hm : decide (min p.K p.D < 1) = false := by simp; omega
      have hsec := smallB_secrets b1
      by_cases h2 : (l.length : Int) = secretsI p
      case neg =>
        have h1 : modelE p l = 4 := by unfold modelE; rw [if_neg (by simp [h2])]
        have HE : Hid (modelE p l = 4 ∧ modelW p l = [] ∧ modelB p l = []) := Lib.hid (by simp [modelW, modelB, h1])
        have hn : ((l.length : Int) != secretsI p) = true := by simpa using h2
        clear h1 b1 h0 h2
        generalize l.length = n at *
        generalize secretsI p = sp at *
        refine wpIn_wide.2 ?_
        go_wp2_with fail
        refine (HS1.out _).mono ?_
        rintro e w1 ⟨rfl, hg1⟩
        have HJ0 := Lib.hid (HB0.out.grown hg1 (by simp))
        have HJ4 := Lib.hid (HB4.out.grown hg1 (by simp))
        have HJ5 := Lib.hid (HB5.out.grown hg1 (by simp))
        have HJ1 := Lib.hid (HG0.out.trans hg1)
        have hp1 := HJ0.out.prule
        clear hg1
        go_wp2_with fail
        refine (HSE.out _).mono ?_
        rintro e w2 ⟨rfl, hg1⟩
        have HK0 := Lib.hid (HJ0.out.grown hg1 (by simp))
        have HK4 := Lib.hid (HJ4.out.grown hg1 (by simp))
        have HK5 := Lib.hid (HJ5.out.grown hg1 (by simp))
        have HG1 := Lib.hid (HJ1.out.trans hg1)
        clear hp1 hg1
        have hp1 := HK0.out.prule
        have c40 := HK4.out.cell 0
        have c41 := HK4.out.cell 1
        have c50 := HK5.out.cell 0
        have f4 := HK4.out.free
        have f5 := HK5.out.free
        simp at c40 c41 c50
        have HK4' := Lib.hid (noW_4 HK4.out 4)
        have HK5' := Lib.hid (noW_5 HK5.out 4)
        have HG4 := Lib.hid (noW_g HG1.out 4)
        go_wp2_with fail
        exact ⟨_, results_model rfl _ rfl rfl HK4'.out HK5'.out, gives_noM HE.out HG4.out⟩
      case pos =>
        obtain ⟨k, hk⟩ : ∃ k : Nat, k = p.K.toNat := ⟨_, rfl⟩
        obtain ⟨d, hd⟩ : ∃ d : Nat, d = p.D.toNat := ⟨_, rfl⟩
        have hsm := b1
        simp [smallB] at hsm
        have hKk : p.K = (k : Int) := by omega
        have hDd : p.D = (d : Int) := by omega
        obtain ⟨m, hmd⟩ : ∃ m : Nat, m = d + 1 := ⟨_, rfl⟩
        have hw1 : wrap64 (p.D + 1) = (m : Int) := by rw [wrap64_small (by omega)]; omega
        have hsecE : secretsI p = ((k * m : Nat) : Int) := by
          unfold secretsI
          rw [hw1, hKk, ← Int.natCast_mul]
          have h7 : k * m ≤ 2 * 5 := Nat.mul_le_mul (by omega) (by omega)
          exact wrap64_small (by omega)
        have hlen : l.length = k * m := by omega
        have HDD : Hid (p.D = (d : Int) ∧ 1 ≤ d ∧ d ≤ 4 ∧ k ≤ 2 ∧ m = d + 1) := Lib.hid (by omega)
        have HLEN := Lib.hid hlen
        have HE : Hid (modelE p l = if l.any (outB p) then 20 else 0) := Lib.hid (by unfold modelE; rw [if_pos (by simp [b1, h0, h2])])
        have HW : Hid (modelE p l = 0 → modelW p l = (chk m l k).map (rowW p d) ∧ modelB p l = (chk m l k).map (rowB p d)) := Lib.hid (fun h => by
          have e1 : (p.D + 1).toNat = m := by omega
          simp [modelW, modelB, h, ← hk, ← hd, e1])
        have HN : Hid (modelE p l = 20 → modelE p l = 20 ∧ modelW p l = [] ∧ modelB p l = []) := Lib.hid (fun h => by simp [modelW, modelB, h])
        have HLL := Lib.hid h2
        have hn : ((l.length : Int) != secretsI p) = false := by simpa using h2
        clear hk hd hsm hKk hDd hsecE hlen b1 h0 h2 hmd hsec
        obtain ⟨n, hnl⟩ : ∃ n, n = l.length := ⟨_, rfl⟩
        have HNL := Lib.hid hnl
        rw [← hnl] at hn _hb hc1 ⊢
        clear hnl
        generalize secretsI p = sp at *
        refine wpIn_wide.2 ?_
        go_wp2_with fail
        refine (HS1.out _).mono ?_
        rintro e w1 ⟨rfl, hg1⟩
        have HJ0 := Lib.hid (HB0.out.grown hg1 (by simp))
        have HJ4 := Lib.hid (HB4.out.grown hg1 (by simp))
        have HJ5 := Lib.hid (HB5.out.grown hg1 (by simp))
        have HJ1 := Lib.hid (HG0.out.trans hg1)
        have hp1 := HJ0.out.prule
        clear hg1
        go_wp2_with fail
        refine (HSE.out _).mono ?_
        rintro e w2 ⟨rfl, hg1⟩
        have HK0 := Lib.hid (HJ0.out.grown hg1 (by simp))
        have HK4 := Lib.hid (HJ4.out.grown hg1 (by simp))
        have HK5 := Lib.hid (HJ5.out.grown hg1 (by simp))
        have HG1 := Lib.hid (HJ1.out.trans hg1)
        clear hp1 hg1
        have HK0b := Lib.hid (HK0.out.alloc (.cells #[.slice none 0 0, .slice none 0 0] 30))
        have hp1 := HK0.out.prule
        have hp2 := HK0b.out.prule
        go_wp2_with fail
        refine (chunk_any _ _ _ m (by have := HDD.out; omega) _).mono ?_
        rintro e w3 ⟨rfl, rfl⟩
        have hs1 : (w2.alloc (.cells #[.slice none 0 0, .slice none 0 0] 30)).heap.size = w2.heap.size + 1 := by simp
        have hs2 : ((w2.alloc (.cells #[.slice none 0 0, .slice none 0 0] 30)).alloc (.cells #[.slice A n c] 39)).heap.size = w2.heap.size + 1 + 1 := by simp
        have b0 := (HK0b.out.alloc (.cells #[.slice A n c] 39)).alloc (.cells #[.int .i64 m] 3)
        have b4 := ((HK4.out.alloc (.cells #[.slice none 0 0, .slice none 0 0] 30)).alloc (.cells #[.slice A n c] 39)).alloc (.cells #[.int .i64 m] 3)
        have b5 := ((HK5.out.alloc (.cells #[.slice none 0 0, .slice none 0 0] 30)).alloc (.cells #[.slice A n c] 39)).alloc (.cells #[.int .i64 m] 3)
        have b6 := ((Bk.new w2 30 #[.slice none 0 0, .slice none 0 0]).alloc (.cells #[.slice A n c] 39)).alloc (.cells #[.int .i64 m] 3)
        have bA := (Boxed.new (w2.alloc (.cells #[.slice none 0 0, .slice none 0 0] 30)) 39 (.slice A n c)).alloc (.cells #[.int .i64 m] 3)
        have bB := Boxed.new ((w2.alloc (.cells #[.slice none 0 0, .slice none 0 0] 30)).alloc (.cells #[.slice A n c] 39)) 3 (.int .i64 m)
        rw [hs1] at bA
        rw [hs2] at bB
        have hBe : Below w.heap.size w (((w2.alloc (.cells #[.slice none 0 0, .slice none 0 0] 30)).alloc (.cells #[.slice A n c] 39)).alloc (.cells #[.int .i64 m] 3)) := below_grown (HG1.out.trans ((World.grownBy_alloc _ _ none).trans grown_two))
        have hsz : (((w2.alloc (.cells #[.slice none 0 0, .slice none 0 0] 30)).alloc (.cells #[.slice A n c] 39)).alloc (.cells #[.int .i64 m] 3)).heap.size = w2.heap.size + 3 := by simp
        have hlt5 : w.heap.size + 1 + 1 < w2.heap.size := HK5.out.lt
        obtain ⟨B6, hB6⟩ : ∃ B, B = w2.heap.size := ⟨_, rfl⟩
        rw [← hB6] at hlt5 b6 bA bB hsz
        obtain ⟨W0, hW0⟩ : ∃ W0, ((w2.alloc (.cells #[.slice none 0 0, .slice none 0 0] 30)).alloc (.cells #[.slice A n c] 39)).alloc (.cells #[.int .i64 m] 3) = W0 := ⟨_, rfl⟩
        go_wp2_with fail
        refine (wpIn_wide (n := 12)).1 ?_
        try rw [← hB6]
        rw [hW0] at b0 b4 b5 b6 bA bB hBe hsz
        clear hB6 hW0 hs1 hs2 HJ0 HJ4 HJ5 HJ1 HK0 HK4 HK5 HK0b HB0 HB4 HB5 hp1 hp2
        have HI0 : Hid (MI p d (B6 + 3) B6 (B6 + 1) (B6 + 1 + 1) (.slice A n c) m w [] W0) := Lib.hid ⟨⟨_, _, b6, ⟨Acc.nil _ _ _ _ _, Acc.nil _ _ _ _ _⟩⟩, by simp, b0, b4, b5, hBe, bA, bB⟩
        refine wpIn_rangeFunc_ownH rfl (by omega) (gf := 114) (lb := #[.pointer (some ⟨B6 + 1, 0, none⟩), .pointer (some ⟨B6 + 1 + 1, 0, none⟩)]) rfl trivial (enters_of Tryz.func114 (by kernel_rfl) rfl)
          (chunk_stops (12 - 1) (by omega) (B6 + 1) (B6 + 1 + 1) _ l m k (by have := HDD.out; omega) HLEN.out X w W0 hBe bA bB (by rw [HNL.out]; exact HL.out)) KpAB.trans (KpAB.b (by omega) (by omega) (by omega)) (Below.refl _ _) (fun _ => rfl)
          (fun (pre : List (CK X w l m)) W => MI p d (B6 + 3) B6 (B6 + 1) (B6 + 1 + 1) (.slice A n c) m w (rowsOf pre) W)
          (fun c _ W => MX p l w c W)
          (fun pre Xw Yw row hs hg hrow => MI.own (show MI p d (B6 + 3) B6 (B6 + 1) (B6 + 1 + 1) (.slice A n c) m w (rowsOf pre) Xw from hs) hg (fun r e => (hrow r e).2) (fun r e => by have := (hrow r e).1; omega))
          (fun cc pre Xw Yw row hs hg hrow => MX.own (show MX p l w cc Xw from hs) hg (fun r e => (hrow r e).2) (fun r e => by have := (hrow r e).1; omega))
          HI0.out
          (fun x a' _ => a' = { tmps := #[p.v, .slice A n c, .pointer (some ⟨w.heap.size, 0, none⟩), undef, .pointer (some ⟨w.heap.size + 1, 0, none⟩), .pointer (some ⟨w.heap.size + 1 + 1, 0, none⟩), .pointer (some ⟨B6, 0, none⟩), .slice x.1.1.1 m x.1.1.2, undef, undef, undef, undef, p.v, .bool true, .bool false, .bool false, .pointer (some ⟨w.heap.size, 7, none⟩), .int .i64 p.K, .pointer (some ⟨w.heap.size, 8, none⟩), .int .i64 p.D, .int .i64 (min p.K p.D), .bool false, .bool false, .bool false, .slice A n c, .int .i64 n, p.v, .int .i64 sp, .bool false, .bool false, undef, .slice A n c, .pointer (some ⟨w.heap.size, 8, none⟩), .int .i64 p.D, .int .i64 m, .func (.func 114) #[] #[.pointer (some ⟨B6 + 1, 0, none⟩), .pointer (some ⟨B6 + 1 + 1, 0, none⟩)], .slice x.1.1.1 m x.1.1.2, undef, undef, undef, undef, undef, undef, undef, undef, undef, undef, undef, undef, undef, undef, undef, undef, undef, undef, undef, undef, undef, undef, undef, undef, undef, undef, undef, undef, undef, undef, undef, undef, undef, undef, undef, undef, undef, undef, undef, undef, undef, undef, undef, undef, undef, undef, undef, undef, undef], defers := [] })
          (fun _ _ _ _ _ _ hs _ _ => hs)
          ?assign ?body ?done ?stop
        case assign =>
          rintro lo pre x W K hi hK
          gi_wp2
          exact hK _ _ (KeepsFrom.refl _ _) (KpAB.refl _ _ _ _) hi rfl
        case body =>
          rintro lo pre ⟨⟨⟨Ar, cr⟩, row⟩, hrs, hrl, hrm⟩ a' W hlo ⟨r0, hr0⟩ hI rfl hlt
          have hrs : Sl encU X w (.slice Ar m cr) row := hrs
          have hrl : row.length = m := hrl
          have hrm : ∀ y ∈ row, y ∈ l := hrm
          have HRS := Lib.hid hrs
          have HRL := Lib.hid hrl
          have HI := Lib.hid hI
          have HPLT : Hid (pre.length < k) := Lib.hid hlt
          have HBP : Hid (∀ w', W.grownBy w' none → Bk w' w.heap.size 24 p.cells) := Lib.hid (fun w' h => hI.par.grown h (by simp))
          have HGW : Hid (w.grownBy W none) := Lib.hid (grown_of_below hI.bel)
          have hm5 : m ≤ 5 := by have := HDD.out; omega
          have h1' : 1 ≤ 12 - 1 - 1 := by omega
          have HRMM := Lib.hid hrm
          have HRM : Hid (∀ j (h : j < row.length), outB p row[j] = true → l.any (outB p) = true) := Lib.hid (fun j h hb => List.any_eq_true.2 ⟨_, hrm _ (List.getElem_mem h), hb⟩)
          clear hrs hrl hrm hI hlt
          gi_wp2
          gi_loopw [8, 39] (fun s8 s39 wx => ∃ j : Nat, j ≤ m ∧ s39 = .int .i64 j ∧ Hid (Acc encI W.heap.size 2 (fun g => W.heap.size ≤ g) wx s8 ((row.take j).map fun x => fixI x p.Q) ∧ W.grownBy wx none ∧ ∀ y ∈ row.take j, outB p y = false)) (fun _ s39 _ => m - (intOf s39).toNat)
          case atStart => exact ⟨0, by omega, rfl, Lib.hid ⟨Acc.nil _ _ _ _ _, World.grownBy.refl _ none, by simp⟩⟩
          case round =>
            obtain ⟨j, hj, rfl, HX⟩ := hrel
            by_cases hlt2 : j < m
            · have hjI : (j : Int) < (m : Int) := by omega
              have hjr : j < row.length := by rw [HRL.out]; exact hlt2
              obtain ⟨hacc, hg, hok⟩ := HX.out
              obtain ⟨g, o, c', e, _, _, hcu, hux⟩ := (HRS.out.kept (HGW.out.trans hg)).atU hjr
              rw [HRL.out] at e
              injection e with e1 e2 e3
              subst e1 e3
              have HBR := Lib.hid (HBP.out wr hg)
              have hpr := HBR.out.prule
              have HBAD := Lib.hid (HRM.out j hjr)
              have HSN : Hid (((row.take (j + 1)).map fun x => fixI x p.Q) = ((row.take j).map fun x => fixI x p.Q) ++ [fixI row[j] p.Q]) := Lib.hid (by rw [List.take_succ_eq_append_getElem hjr, List.map_append]; rfl)
              have HOKN : Hid (outB p row[j] = false → ∀ y ∈ row.take (j + 1), outB p y = false) := Lib.hid (fun hb y hy => by
                rw [List.take_succ_eq_append_getElem hjr] at hy
                rcases List.mem_append.1 hy with hy | hy
                · exact hok y hy
                · rw [List.mem_singleton.1 hy]; exact hb)
              have HFI := Lib.hid (fixInt_any row[j] p.Q wr hux HQ.out)
              have HAC := Lib.hid hacc
              have HG := Lib.hid hg
              have HLB : Hid ((((row.take j).map fun x => fixI x p.Q).length + 1) * 8 ≤ 140737488355328) := Lib.hid (by rw [List.length_map, List.length_take]; omega)
              have HFB : Hid (I64 (fixI row[j] p.Q)) := Lib.hid (fixI_I64 _ _ HQ.out)
              obtain ⟨ob, hob⟩ : ∃ b, b = outB p row[j] := ⟨_, rfl⟩
              rw [← hob] at HBAD HOKN
              have HOB : Hid (ob = (decide (fixI row[j] p.Q < wrap64 (-p.M)) || decide (fixI row[j] p.Q > p.M))) := Lib.hid hob
              obtain ⟨y, hy⟩ : ∃ y, y = fixI row[j] p.Q := ⟨_, rfl⟩
              rw [← hy] at HSN HFI HFB HOB
              clear hacc hg hok hux HX hob hy
              generalize row[j] = x at *
              by_cases q1 : y < wrap64 (-p.M)
              · have HBT : Hid (l.any (outB p) = true) := Lib.hid (HBAD.out (by rw [HOB.out]; simp [q1]))
                have e1 : decide (y < wrap64 (-p.M)) = true := by simpa using q1
                clear q1
                gi_wp2_with (refine ⟨trivial, ?_⟩; gi_at_call 85; refine (CallsIn.inRound lo (callsIn_wide.2 HFI.out)).mono ?_; rintro e w3 ⟨rfl, hg3⟩; have HG3 := Lib.hid (HG.out.trans hg3); have HB3 := Lib.hid (HBP.out w3 HG3.out); have hp3 := HB3.out.prule; have HAC3 := Lib.hid (HAC.out.kept hg3); have HK4 := Lib.hid (HI.out.r4.grown HG3.out (by simp)); have HK5 := Lib.hid (HI.out.r5.grown HG3.out (by simp)); have c40 := HK4.out.cell 0; have c41 := HK4.out.cell 1; have c50 := HK5.out.cell 0; have f4 := HK4.out.free; have f5 := HK5.out.free; simp at c40 c41 c50; clear hg3)
                exact ⟨((keeps_none HG3.out).trans ((KeepsOthers.setCell _ _ _).trans ((KeepsOthers.setCell _ _ _).trans (KeepsOthers.setCell _ _ _)))).from _, ⟨rfl, HBT.out, noW_4 HK4.out 20, noW_5 HK5.out 20, below_grown (noW_g (HGW.out.trans HG3.out) 20)⟩⟩
              · have e1 : decide (y < wrap64 (-p.M)) = false := by simpa using q1
                by_cases q2 : y > p.M
                · have HBT : Hid (l.any (outB p) = true) := Lib.hid (HBAD.out (by rw [HOB.out]; simp [q2]))
                  have e2 : decide (y > p.M) = true := by simpa using q2
                  clear q1 q2
                  gi_wp2_with (refine ⟨trivial, ?_⟩; gi_at_call 85; refine (CallsIn.inRound lo (callsIn_wide.2 HFI.out)).mono ?_; rintro e w3 ⟨rfl, hg3⟩; have HG3 := Lib.hid (HG.out.trans hg3); have HB3 := Lib.hid (HBP.out w3 HG3.out); have hp3 := HB3.out.prule; have HAC3 := Lib.hid (HAC.out.kept hg3); have HK4 := Lib.hid (HI.out.r4.grown HG3.out (by simp)); have HK5 := Lib.hid (HI.out.r5.grown HG3.out (by simp)); have c40 := HK4.out.cell 0; have c41 := HK4.out.cell 1; have c50 := HK5.out.cell 0; have f4 := HK4.out.free; have f5 := HK5.out.free; simp at c40 c41 c50; clear hg3)
                  exact ⟨((keeps_none HG3.out).trans ((KeepsOthers.setCell _ _ _).trans ((KeepsOthers.setCell _ _ _).trans (KeepsOthers.setCell _ _ _)))).from _, ⟨rfl, HBT.out, noW_4 HK4.out 20, noW_5 HK5.out 20, below_grown (noW_g (HGW.out.trans HG3.out) 20)⟩⟩
                · have HOK := Lib.hid (HOKN.out (by rw [HOB.out]; simp [q1, q2]))
                  have e2 : decide (y > p.M) = false := by simpa using q2
                  clear q1 q2
                  gi_wp2_with (first
                    | (refine ⟨trivial, ?_⟩; gi_at_call 85; refine (CallsIn.inRound lo (callsIn_wide.2 HFI.out)).mono ?_; rintro e w3 ⟨rfl, hg3⟩; have HG3 := Lib.hid (HG.out.trans hg3); have HB3 := Lib.hid (HBP.out w3 HG3.out); have hp3 := HB3.out.prule; have HAC3 := Lib.hid (HAC.out.kept hg3); have HK4 := Lib.hid (HI.out.r4.grown HG3.out (by simp)); have HK5 := Lib.hid (HI.out.r5.grown HG3.out (by simp)); have c40 := HK4.out.cell 0; have c41 := HK4.out.cell 1; have c50 := HK5.out.cell 0; have f4 := HK4.out.free; have f5 := HK5.out.free; simp at c40 c41 c50; clear hg3)
                    | (gi_at_builtin; refine wpListIn_push rfl (.tmp 59) (.tmp 61) rfl (E := encI) (y := y) el_i64 HAC3.out rfl rfl ⟨rfl, HFB.out⟩ HLB.out HG3.out.size (fun g hg => Nat.le_trans HG3.out.size hg) ?_; intro v4 w4 ha hgr hmv; have HFIN := Lib.hid (show Acc encI W.heap.size 2 (fun g => W.heap.size ≤ g) w4 v4 ((row.take (j + 1)).map fun x => fixI x p.Q) ∧ W.grownBy w4 none from ⟨by rw [HSN.out]; exact ha, grown_up HG3.out hgr (fun g he => (HAC3.out.lt g he).1)⟩); clear ha hgr hmv))
                  exact ⟨⟨j + 1, by omega, by go_num, Lib.hid ⟨HFIN.out.1, HFIN.out.2, HOK.out⟩⟩, by simp [intOf]; omega⟩
            · obtain rfl : m = j := by omega
              obtain ⟨hacc, hg, hok⟩ := HX.out
              rw [List.take_of_length_le (by rw [HRL.out]; exact Nat.le_refl _)] at hacc hok
              obtain ⟨⟨vW, vB, k1, k2⟩, k3, k4, k5, k6, k7, k8, k9⟩ := HI.out
              obtain ⟨AW, nW, cW, rfl⟩ := k2.fst.sl.shape
              obtain ⟨AB, nB, cB, rfl⟩ := k2.snd.sl.shape
              have hdm : d < m := by have := HDD.out; omega
              have hpos : 0 < (row.map fun x => fixI x p.Q).length := by rw [List.length_map, HRL.out]; omega
              obtain ⟨g8, c8, e8, hg8a, hg8b, hm8, hc8⟩ := hacc.form0 hpos
              rw [List.length_map, HRL.out] at e8 hm8
              subst e8
              have hgd : W.grownBy wr.drew none := hg.trans (grown_drewN' wr 1)
              have hdr : d < row.length := by rw [HRL.out]; exact hdm
              obtain ⟨bv, hbv⟩ : ∃ b, b = rowB p d row := ⟨_, rfl⟩
              have hbv2 : bv = fixI row[d] p.Q := by rw [hbv, rowB, List.getElem?_eq_getElem hdr]; rfl
              obtain ⟨g, o, c', e, _, _, hcd, hib⟩ := (hacc.kept (grown_drewN' wr 1)).sl.atI (k := d) (by rw [List.length_map]; exact hdr)
              rw [List.length_map, HRL.out] at e
              injection e with e1 e2 e3
              injection e1 with e1
              injection e1 with e1 e4
              subst e1 e4
              clear e2 e3
              rw [List.getElem_map, ← hbv2, Nat.zero_add] at hcd
              rw [List.getElem_map, ← hbv2] at hib
              have HBV := Lib.hid hib
              have HSd := Lib.hid (k2.kept hgd)
              have hltW : ∀ g, (Value.slice AW nW cW).ownBlock = some g → g < W.heap.size := fun g e => (k2.fst.lt g e).2
              have hltB : ∀ g, (Value.slice AB nB cB).ownBlock = some g → g < W.heap.size := fun g e => (k2.snd.lt g e).2
              have HWL : Hid (∀ g, (Value.slice AW nW cW).ownBlock = some g → g < wr.drew.heap.size) := Lib.hid (fun g e => (HSd.out.fst.lt g e).2)
              have HBL : Hid (∀ g, (Value.slice AB nB cB).ownBlock = some g → g < wr.drew.heap.size) := Lib.hid (fun g e => (HSd.out.snd.lt g e).2)
              have HN8 : Hid (some g8 ≠ (Value.slice AW nW cW).ownBlock ∧ some g8 ≠ (Value.slice AB nB cB).ownBlock) := Lib.hid ⟨fun e => by have := hltW g8 e.symm; omega, fun e => by have := hltB g8 e.symm; omega⟩
              have HREP : Hid ((encW encI).rep (fun g => (B6 + 3 ≤ g ∧ some g ≠ (Value.slice AB nB cB).ownBlock) ∧ some g ≠ (Value.slice AW nW cW).ownBlock) wr.drew [.slice (some ⟨g8, 0, none⟩) d d] (rowW p d row)) := Lib.hid (by
                have hs := ((hacc.kept (grown_drewN' wr 1)).sl.take d (by rw [List.length_map]; omega)).cap d (Nat.le_refl _) (by omega)
                rw [← List.map_take] at hs
                have hw := (((hacc.kept (grown_drewN' wr 1)).wr hpos).reslice (n' := d) (c' := d))
                have hX : ∀ g, W.heap.size ≤ g → (B6 + 3 ≤ g ∧ some g ≠ (Value.slice AB nB cB).ownBlock) ∧ some g ≠ (Value.slice AW nW cW).ownBlock := fun g h => ⟨⟨by have := k9.lt; omega, fun e => by have := hltB g e.symm; omega⟩, fun e => by have := hltW g e.symm; omega⟩
                exact ⟨_, rfl, hs.more fun g _ h => hX g h, hw.more fun g _ h => hX g h⟩)
              have hbase : B6 + 3 ≤ W.heap.size := by have := k9.lt; omega
              have HLD : Hid (∀ vs w', (mLt (B6 + 3) W wr.drew (.slice AW nW cW) (.slice AB nB cB) g8 d bv ((rowsOf pre).map (rowW p d)) ((rowsOf pre).map (rowB p d)) (rowW p d row)).C vs w' → w'.cell? ⟨B6, 0, none⟩ = some (.slice AW nW cW) ∧ w'.cell? ⟨B6, 1, none⟩ = some (.slice AB nB cB) ∧ w'.cell? ⟨w.heap.size, 8, none⟩ = some (.int .i64 (d : Int)) ∧ w'.cell? ⟨g8, d, none⟩ = some (.int .i64 bv)) := Lib.hid (fun vs w' h => by
                refine ⟨(h.1.cell (p := ⟨B6, 0, none⟩) (by show B6 < B6 + 3; omega)).trans (by have := k1.cell 0; simpa using this), (h.1.cell (p := ⟨B6, 1, none⟩) (by show B6 < B6 + 3; omega)).trans (by have := k1.cell 1; simpa using this), (h.1.cell (p := ⟨w.heap.size, 8, none⟩) (by show w.heap.size < B6 + 3; omega)).trans ?_, h.2.2.2.2.1⟩
                have := k4.cell 8
                rw [← HDD.out.1]
                simpa using this)
              have HSZ : Hid (∀ vs w', (mLt (B6 + 3) W wr.drew (.slice AW nW cW) (.slice AB nB cB) g8 d bv ((rowsOf pre).map (rowW p d)) ((rowsOf pre).map (rowB p d)) (rowW p d row)).C vs w' → wr.drew.heap.size ≤ w'.heap.size) := Lib.hid (fun vs w' h => h.2.2.1)
              have HLBW : Hid ((((rowsOf pre).map (rowW p d)).length + 1) * 24 ≤ 140737488355328) := Lib.hid (by have := HPLT.out; have := HDD.out; simp [rowsOf]; omega)
              have HLBB : Hid ((((rowsOf pre).map (rowB p d)).length + 1) * 8 ≤ 140737488355328) := Lib.hid (by have := HPLT.out; have := HDD.out; simp [rowsOf]; omega)
              have HC0 : Hid ((mLt (B6 + 3) W wr.drew (.slice AW nW cW) (.slice AB nB cB) g8 d bv ((rowsOf pre).map (rowW p d)) ((rowsOf pre).map (rowB p d)) (rowW p d row)).C [] wr.drew) := Lib.hid ⟨(Below.refl _ W).grown hgd hbase (by simp), keeps_none hgd, Nat.le_refl _, Nat.le_trans hbase hgd.size, hcd, World.grownBy.refl _ none⟩
              have HRN : Hid (rowsOf (pre ++ [(⟨((Ar, cr), row), HRS.out, HRL.out, HRMM.out⟩ : CK X w l m)]) = rowsOf pre ++ [row]) := Lib.hid (by simp [rowsOf])
              have HFR : Hid (∀ w5 u u2, (mLt (B6 + 3) W wr.drew (.slice AW nW cW) (.slice AB nB cB) g8 d bv ((rowsOf pre).map (rowW p d)) ((rowsOf pre).map (rowB p d)) (rowW p d row)).C [u, u2] w5 → Bk w5 B6 30 #[.slice AW nW cW, .slice AB nB cB] ∧ (KeepsFrom W0.heap.size W ((w5.setCell ⟨B6, 0, none⟩ u).setCell ⟨B6, 1, none⟩ u2) ∧ KpAB w.heap.size (B6 + 1) (B6 + 1 + 1) W ((w5.setCell ⟨B6, 0, none⟩ u).setCell ⟨B6, 1, none⟩ u2) ∧ MI p d (B6 + 3) B6 (B6 + 1) (B6 + 1 + 1) (.slice A n c) m w (rowsOf pre ++ [row]) ((w5.setCell ⟨B6, 0, none⟩ u).setCell ⟨B6, 1, none⟩ u2))) := Lib.hid (fun w5 u u2 hC => by
                have hB : ∀ b, b < B6 + 3 → w5.heap[b]? = W.heap[b]? := fun b hb => hC.1.block b hb
                have h6 : Bk w5 B6 30 #[.slice AW nW cW, .slice AB nB cB] := (hB B6 (by omega)).trans k1
                have hfar : ∀ b, b < B6 + 3 → b ≠ B6 → ((w5.setCell ⟨B6, 0, none⟩ u).setCell ⟨B6, 1, none⟩ u2).heap[b]? = W.heap[b]? := fun b hb hne => by
                  rw [Below.heap_setCell _ _ _ _ hne, Below.heap_setCell _ _ _ _ hne]
                  exact hB b hb
                have hS : SideM (B6 + 3) w5 u u2 _ _ := hC.2.2.2.2.2
                have hbel : Below w.heap.size W ((w5.setCell ⟨B6, 0, none⟩ u).setCell ⟨B6, 1, none⟩ u2) := ((hC.1.mono (by omega)).setCell (p := ⟨B6, 0, none⟩) (by show w.heap.size ≤ B6; omega) _).setCell (p := ⟨B6, 1, none⟩) (by show w.heap.size ≤ B6; omega) _
                refine ⟨h6, (hC.2.1.trans ((KeepsOthers.setCell _ _ _).trans (KeepsOthers.setCell _ _ _))).from _, ⟨hbel, hfar _ (by omega) (by omega), hfar _ (by omega) (by omega)⟩, ⟨⟨u, u2, (h6.set 0 u).set 1 u2, ?_⟩, ?_, (hfar _ (by omega) (by omega)).trans k4, (hfar _ (by omega) (by omega)).trans k5, (hfar _ (by omega) (by omega)).trans k6, k7.trans hbel, (hfar _ (by omega) (by omega)).trans k8, (hfar _ (by omega) (by omega)).trans k9⟩⟩
                · rw [List.map_append, List.map_append, List.map_singleton, List.map_singleton, ← hbv]
                  exact (hS.keep (grownSet _ _ _ _) (fun g hg e => by injection e with e; omega)).keep (grownSet _ _ _ _) (fun g hg e => by injection e with e; omega)
                · intro r hr
                  rcases List.mem_append.1 hr with hr | hr
                  · exact k3 r hr
                  · rw [List.mem_singleton.1 hr]; exact hok)
              have hdI : (d : Int) ≤ (c8 : Int) := by omega
              have hdN : d ≤ c8 := by omega
              have hdmI : (d : Int) < (m : Int) := by omega
              have hd0 : (0 : Int) ≤ (d : Int) := by omega
              clear hacc hg hok k1 k2 k3 k4 k5 k6 k7 k8 k9 hcd hib hbv hbv2 hltW hltB hgd hdr hpos HX HI
              gi_wp2
              refine wpIn_round_any (R := fun _ w' => KeepsFrom W0.heap.size W w' ∧ KpAB w.heap.size (B6 + 1) (B6 + 1 + 1) W w' ∧ MI p d (B6 + 3) B6 (B6 + 1) (B6 + 1 + 1) (.slice A n c) m w (rowsOf pre ++ [row]) w') (by kernel_rfl) (by kernel_rfl) (fun a w' h => ?_) ?_
              · rw [← HRN.out] at h
                exact h
              refine wpAny_lateR (L := mLt (B6 + 3) W wr.drew (.slice AW nW cW) (.slice AB nB cB) g8 d bv ((rowsOf pre).map (rowW p d)) ((rowsOf pre).map (rowB p d)) (rowW p d row)) (late := [9, 18]) 20 (by kernel_rfl) (by kernel_rfl) HC0.out ?_
              -- op 0 (slot 64): fieldAddr
              refine LateR.mono (Qv.eq (.pointer (some ⟨B6, 0, none⟩))) [] (by kernel_rfl) (by rfl) rfl (fun vs w' hC => ?_) ?_
              · refine askl_do rfl fun K hK => ?_
                go_simp
                exact hK _ _ rfl ⟨rfl, World.grownBy.refl _ none⟩
              -- op 1 (slot 65): load
              refine LateR.mono (Qv.eq (.slice AW nW cW)) [(0, 64)] (by kernel_rfl) (by rfl) rfl (fun vs w' hC => ?_) ?_
              · rintro _ rfl
                refine askl_do rfl fun K hK => ?_
                obtain ⟨q0, q1, hD8, hg8⟩ := HLD.out vs w' hC
                go_simp
                exact hK _ _ rfl ⟨rfl, World.grownBy.refl _ none⟩
              -- op 2 (slot 66): move
              refine LateR.mono (Qv.eq (.slice (some ⟨g8, 0, none⟩) m c8)) [] (by kernel_rfl) (by rfl) rfl (fun vs w' hC => ?_) ?_
              · refine askl_do rfl fun K hK => ?_
                go_simp
                exact hK _ _ rfl ⟨rfl, World.grownBy.refl _ none⟩
              -- op 3 (slot 67): fieldAddr
              refine LateR.mono (Qv.eq (.pointer (some ⟨w.heap.size, 8, none⟩))) [] (by kernel_rfl) (by rfl) rfl (fun vs w' hC => ?_) ?_
              · refine askl_do rfl fun K hK => ?_
                go_simp
                exact hK _ _ rfl ⟨rfl, World.grownBy.refl _ none⟩
              -- op 4 (slot 68): load
              refine LateR.mono (Qv.eq (.int .i64 (d : Int))) [(3, 67)] (by kernel_rfl) (by rfl) rfl (fun vs w' hC => ?_) ?_
              · rintro _ rfl
                refine askl_do rfl fun K hK => ?_
                obtain ⟨q0, q1, hD8, hg8⟩ := HLD.out vs w' hC
                go_simp
                exact hK _ _ rfl ⟨rfl, World.grownBy.refl _ none⟩
              -- op 5 (slot 69): fieldAddr
              refine LateR.mono (Qv.eq (.pointer (some ⟨w.heap.size, 8, none⟩))) [] (by kernel_rfl) (by rfl) rfl (fun vs w' hC => ?_) ?_
              · refine askl_do rfl fun K hK => ?_
                go_simp
                exact hK _ _ rfl ⟨rfl, World.grownBy.refl _ none⟩
              -- op 6 (slot 70): load
              refine LateR.mono (Qv.eq (.int .i64 (d : Int))) [(5, 69)] (by kernel_rfl) (by rfl) rfl (fun vs w' hC => ?_) ?_
              · rintro _ rfl
                refine askl_do rfl fun K hK => ?_
                obtain ⟨q0, q1, hD8, hg8⟩ := HLD.out vs w' hC
                go_simp
                exact hK _ _ rfl ⟨rfl, World.grownBy.refl _ none⟩
              -- op 7 (slot 71): slice
              refine LateR.mono (Qv.eq (.slice (some ⟨g8, 0, none⟩) d d)) [(2, 66), (4, 68), (6, 70)] (by kernel_rfl) (by rfl) rfl (fun vs w' hC => ?_) ?_
              · rintro _ rfl
                rintro _ rfl
                rintro _ rfl
                refine askl_do rfl fun K hK => ?_
                go_simp
                exact hK _ _ rfl ⟨rfl, World.grownBy.refl _ none⟩
              -- op 8 (slot 72): buildSlice
              refine LateR.mono (blkQ HWL.out HBL.out 25 (.slice (some ⟨g8, 0, none⟩) d d)) [(7, 71)] (by kernel_rfl) (by rfl) rfl (fun vs w' hC => ?_) ?_
              · rintro _ rfl
                refine askl_do rfl fun K hK => ?_
                have hsz := HSZ.out vs w' hC
                go_simp
                exact hK _ _ rfl ⟨⟨_, rfl, hsz, Bk.new w' _ _⟩, World.grownBy_alloc w' _ none⟩
              -- op 9 (slot 73): call
              refine LateR.turn 0 [(1, 65), (8, 72)] (by kernel_rfl) rfl (fun vs w' hl hC => ?_) ?_
              · rintro _ rfl
                intro x72 h72
                have h72 : BlkQ wr.drew.heap.size 25 (.slice (some ⟨g8, 0, none⟩) d d) x72 w' := h72
                obtain ⟨b72, e72, hb72, hk72⟩ := h72
                subst e72
                refine askl_do rfl fun K hK => ?_
                obtain rfl : vs = [] := List.eq_nil_of_length_eq_zero hl
                refine pushAt_core (E := encW encI) el_i64s (HSd.out.kept hC.2.2.2.2.2).fst ((encW encI).keep HREP.out hC.2.2.2.2.2 (by simp)) (Bk.one hk72) HLBW.out hC.2.2.2.1 ((HSd.out.kept hC.2.2.2.2.2).new1 (fun g hg => Nat.le_trans hC.2.2.2.1 hg)) (.tmp 65) (.tmp 72) rfl rfl rfl ?_
                intro v3 w3 ha hgr hm
                exact hK _ _ rfl ⟨hgr, mLt_one hC HSd.out ha hgr hm HN8.out.1⟩
              -- op 10 (slot 74): fieldAddr
              refine LateR.mono (Qv.eq (.pointer (some ⟨B6, 1, none⟩))) [] (by kernel_rfl) (by rfl) rfl (fun vs w' hC => ?_) ?_
              · refine askl_do rfl fun K hK => ?_
                go_simp
                exact hK _ _ rfl ⟨rfl, World.grownBy.refl _ none⟩
              -- op 11 (slot 75): load
              refine LateR.mono (Qv.eq (.slice AB nB cB)) [(10, 74)] (by kernel_rfl) (by rfl) rfl (fun vs w' hC => ?_) ?_
              · rintro _ rfl
                refine askl_do rfl fun K hK => ?_
                obtain ⟨q0, q1, hD8, hg8⟩ := HLD.out vs w' hC
                go_simp
                exact hK _ _ rfl ⟨rfl, World.grownBy.refl _ none⟩
              -- op 12 (slot 76): move
              refine LateR.mono (Qv.eq (.slice (some ⟨g8, 0, none⟩) m c8)) [] (by kernel_rfl) (by rfl) rfl (fun vs w' hC => ?_) ?_
              · refine askl_do rfl fun K hK => ?_
                go_simp
                exact hK _ _ rfl ⟨rfl, World.grownBy.refl _ none⟩
              -- op 13 (slot 77): fieldAddr
              refine LateR.mono (Qv.eq (.pointer (some ⟨w.heap.size, 8, none⟩))) [] (by kernel_rfl) (by rfl) rfl (fun vs w' hC => ?_) ?_
              · refine askl_do rfl fun K hK => ?_
                go_simp
                exact hK _ _ rfl ⟨rfl, World.grownBy.refl _ none⟩
              -- op 14 (slot 78): load
              refine LateR.mono (Qv.eq (.int .i64 (d : Int))) [(13, 77)] (by kernel_rfl) (by rfl) rfl (fun vs w' hC => ?_) ?_
              · rintro _ rfl
                refine askl_do rfl fun K hK => ?_
                obtain ⟨q0, q1, hD8, hg8⟩ := HLD.out vs w' hC
                go_simp
                exact hK _ _ rfl ⟨rfl, World.grownBy.refl _ none⟩
              -- op 15 (slot 79): indexAddr
              refine LateR.mono (Qv.eq (.pointer (some ⟨g8, d, none⟩))) [(12, 76), (14, 78)] (by kernel_rfl) (by rfl) rfl (fun vs w' hC => ?_) ?_
              · rintro _ rfl
                rintro _ rfl
                refine askl_do rfl fun K hK => ?_
                go_simp
                exact hK _ _ rfl ⟨rfl, World.grownBy.refl _ none⟩
              -- op 16 (slot 80): load
              refine LateR.mono (Qv.eq (.int .i64 bv)) [(15, 79)] (by kernel_rfl) (by rfl) rfl (fun vs w' hC => ?_) ?_
              · rintro _ rfl
                refine askl_do rfl fun K hK => ?_
                obtain ⟨q0, q1, hD8, hg8⟩ := HLD.out vs w' hC
                go_simp
                exact hK _ _ rfl ⟨rfl, World.grownBy.refl _ none⟩
              -- op 17 (slot 81): buildSlice
              refine LateR.mono (blkQ HWL.out HBL.out 2 (.int .i64 bv)) [(16, 80)] (by kernel_rfl) (by rfl) rfl (fun vs w' hC => ?_) ?_
              · rintro _ rfl
                refine askl_do rfl fun K hK => ?_
                have hsz := HSZ.out vs w' hC
                go_simp
                exact hK _ _ rfl ⟨⟨_, rfl, hsz, Bk.new w' _ _⟩, World.grownBy_alloc w' _ none⟩
              -- op 18 (slot 82): call
              refine LateR.turn 1 [(11, 75), (17, 81)] (by kernel_rfl) rfl (fun vs w' hl hC => ?_) ?_
              · rintro _ rfl
                intro x81 h81
                have h81 : BlkQ wr.drew.heap.size 2 (.int .i64 bv) x81 w' := h81
                obtain ⟨b81, e81, hb81, hk81⟩ := h81
                subst e81
                refine askl_do rfl fun K hK => ?_
                obtain ⟨u, rfl⟩ : ∃ u, vs = [u] := List.length_eq_one_iff.1 hl
                have hS1 : SideM (B6 + 3) w' u (.slice AB nB cB) _ _ := hC.2.2.2.2.2
                refine pushAt_core (E := encI) el_i64 hS1.snd ⟨rfl, HBV.out⟩ (Bk.one hk81) HLBB.out hC.2.2.2.1 (hS1.new2 (fun g hg => Nat.le_trans hC.2.2.2.1 hg)) (.tmp 75) (.tmp 81) rfl rfl rfl ?_
                intro v3 w3 ha hgr hm
                exact hK _ _ rfl ⟨hgr, mLt_two hC ha hgr hm HN8.out.2⟩
              -- op 19 (slot 83): fieldAddr
              refine LateR.mono (Qv.eq (.pointer (some ⟨B6, 0, none⟩))) [] (by kernel_rfl) (by rfl) rfl (fun vs w' hC => ?_) ?_
              · refine askl_do rfl fun K hK => ?_
                go_simp
                exact hK _ _ rfl ⟨rfl, World.grownBy.refl _ none⟩
              intro vs w5 hvl hC5
              obtain ⟨u, u2, rfl⟩ : ∃ u u2, vs = [u, u2] := by
                match vs, hvl with
                | [u, u2], _ => exact ⟨u, u2, rfl⟩
              intro y0 k0 y1 k1 y2 k2 y3 k3 y4 k4 y5 k5 y6 k6 y7 k7 y8 k8 y9 k9 y10 k10 y11 k11 y12 k12 y13 k13 y14 k14 y15 k15 y16 k16 y17 k17 y18 k18 y19 k19
              show wpList Tryz.prog _ _ _ _ w5
              simp only [Act.put, List.setIfInBounds_toArray, List.set_cons_zero, List.set_cons_succ]
              have e9 : y9 = u := by have : some u = some y9 := k9; injection this with this; exact this.symm
              have e18 : y18 = u2 := by have : some u2 = some y18 := k18; injection this with this; exact this.symm
              have e19 : y19 = .pointer (some ⟨B6, 0, none⟩) := k19
              subst e9 e18 e19
              obtain ⟨h6, HR⟩ := HFR.out w5 y9 y18 hC5
              have hS5 : SideM (B6 + 3) w5 y9 y18 _ _ := hC5.2.2.2.2.2
              obtain ⟨Au, nu, cu, rfl⟩ := hS5.fst.sl.shape
              obtain ⟨Av, nv, cv, rfl⟩ := hS5.snd.sl.shape
              have HRR := Lib.hid HR
              have c60 := h6.cell 0
              have c61 := h6.cell 1
              have f6 := h6.free
              simp at c60 c61
              clear HR h6 hS5 hC5 k0 k1 k2 k3 k4 k5 k6 k7 k8 k9 k10 k11 k12 k13 k14 k15 k16 k17 k18 k19 HLD HSZ HFR HC0
              go_wp2_with fail
              exact ⟨rfl, HRR.out⟩
        case done =>
          rintro D xs W hD hxs hI hK
          have hxs : rowsOf xs = chk m l k := hxs
          rw [hxs] at hI
          obtain ⟨⟨vW, vB, k1, k2⟩, k3, k4, k5, k6, k7, k8, k9⟩ := hI
          obtain ⟨AW, nW, cW, rfl⟩ := k2.fst.sl.shape
          obtain ⟨AB, nB, cB, rfl⟩ := k2.snd.sl.shape
          have hg := grown_of_below k7
          have hne : ∀ g, g < B6 + 3 → some g ≠ some D := fun g hg e => by injection e with e; omega
          have hz : l.any (outB p) = false := by
            rw [List.any_eq_false]
            intro y hy
            have hfl : y ∈ (chk m l k).flatten := by rw [chk_flatten _ _ _ (by have := HDD.out; omega) HLEN.out]; exact hy
            obtain ⟨r, hr, hyr⟩ := List.mem_flatten.1 hfl
            rw [k3 r hr y hyr]
            simp
          have hE0 : modelE p l = 0 := by rw [HE.out, hz]; rfl
          obtain ⟨hW1, hW2⟩ := HW.out hE0
          have HS0 := Lib.hid k2
          have HK1 : Hid (Bk W B6 30 #[.slice AW nW cW, .slice AB nB cB]) := Lib.hid k1
          have c60 := k1.cell 0
          have c61 := k1.cell 1
          have c40 := k5.cell 0
          have c41 := k5.cell 1
          have c50 := k6.cell 0
          have f4 := k5.free
          have f5 := k6.free
          simp at c60 c61 c40 c41 c50
          have HK4 := Lib.hid k5
          have HK5 := Lib.hid k6
          have HGW := Lib.hid hg
          have HRES : Hid (modelW p l = (chk m l k).map (rowW p d) ∧ modelB p l = (chk m l k).map (rowB p d) ∧ modelE p l = 0) := Lib.hid ⟨hW1, hW2, hE0⟩
          clear k1 k2 k3 k4 k5 k6 k7 k8 k9 hg hz hE0 hW1 hW2
          obtain ⟨wF, hwF⟩ : ∃ x, x = ((W.setCell ⟨w.heap.size + 1, 0, none⟩ (.slice AW nW cW)).setCell ⟨w.heap.size + 1, 1, none⟩ (.slice AB nB cB)).setCell ⟨w.heap.size + 1 + 1, 0, none⟩ (.int .i64 0) := ⟨_, rfl⟩
          have HF4 : Hid (Bk wF (w.heap.size + 1) 30 #[.slice AW nW cW, .slice AB nB cB]) := Lib.hid (by rw [hwF]; exact ((HK4.out.set 0 _).set 1 _).far (by simp) _)
          have HF5 : Hid (Bk wF (w.heap.size + 1 + 1) 36 #[.int .i64 0]) := Lib.hid (by rw [hwF]; exact ((HK5.out.far (by simp) _).far (by simp) _).set 0 _)
          have HFG : Hid (w.grownBy wF none) := Lib.hid (by rw [hwF]; exact grownSetUp (grownSetUp (grownSetUp HGW.out _ _ (by omega)) _ _ (by omega)) _ _ (by omega))
          have HFS : Hid (SideM (B6 + 3) wF (.slice AW nW cW) (.slice AB nB cB) ((chk m l k).map (rowW p d)) ((chk m l k).map (rowB p d))) := Lib.hid (by
            rw [hwF]
            exact ((HS0.out.keep (grownSet _ _ _ _) (fun g hg e => by injection e with e; omega)).keep (grownSet _ _ _ _) (fun g hg e => by injection e with e; omega)).keep (grownSet _ _ _ _) (fun g hg e => by injection e with e; omega))
          have HFD : Hid (wF.heap[D]? = some (.deferred (some []))) := Lib.hid (by
            rw [hwF, Below.heap_setCell _ _ _ _ (by show D ≠ w.heap.size + 1 + 1; omega), Below.heap_setCell _ _ _ _ (by show D ≠ w.heap.size + 1; omega), Below.heap_setCell _ _ _ _ (by show D ≠ w.heap.size + 1; omega)]
            exact hK)
          gi_wp2
          go_wp2_with fail
          try simp only [← hwF]
          have hDg := grownBy_putObj' wF D (.deferred none)
          have hDno : ∀ r, some D = some r → ∃ o : Obj, wF.heap[r]? = some o ∧ o.isCells = false := fun r e => ⟨.deferred (some []), by cases e; exact HFD.out, rfl⟩
          have hS := HFS.out.keepc hDg hDno
          have hG := grown_up HFG.out hDg (fun g e => by injection e with e; omega)
          refine ⟨by simp, .inl ⟨_, _, rfl, run_takeDeferred HFD.out, ?_⟩⟩
          refine ⟨_, results_model rfl _ rfl rfl (HF4.out.grown hDg (hne _ (by omega))) (HF5.out.grown hDg (hne _ (by omega))), ?_⟩
          refine ⟨_, _, by rw [HRES.out.2.2], ?_, ?_, ?_, hG⟩
          · rw [HRES.out.1]
            exact hS.fst.sl.more fun g _ hg => by have := hg.1; omega
          · rw [HRES.out.2.1]
            exact hS.snd.sl.more fun g _ hg => by have := hg.1; omega
          · intro hn
            rw [HRES.out.2.1] at hn
            exact (hS.snd.wr (List.length_pos_iff.2 hn)).more fun g _ hg => by have := hg.1; omega
        case stop =>
          rintro D c pre W hD _ hX hK
          obtain ⟨rfl, k2, k5, k6, k7⟩ := hX
          have hg := grown_of_below k7
          have hDg := grownBy_putObj' W D (.deferred none)
          have hne : ∀ g, g < B6 → some g ≠ some D := fun g hg e => by injection e with e; omega
          have k5' := k5.grown hDg (hne _ (by omega))
          have k6' := k6.grown hDg (hne _ (by omega))
          have HN20 := Lib.hid (HN.out (by rw [HE.out, k2]; rfl))
          have HK5 := Lib.hid k5'
          have HK6 := Lib.hid k6'
          have HGD : Hid (w.grownBy (W.putObj D (.deferred none)) none) := Lib.hid (grown_up hg hDg (fun g e => by injection e with e; omega))
          clear k5 k6 k5' k6' k7 hg hDg
          gi_wp2
          refine ⟨by simp, .inl ⟨_, _, rfl, run_takeDeferred hK, ?_⟩⟩
          exact ⟨_, results_model rfl _ rfl rfl HK5.out HK6.out, gives_noM HN20.out HGD.out⟩
end Go.Proofs.YtiimippmihkgcaaGreatDoor

namespace Go.Proofs.YtiimippmihkgcaaGreatDoor
open Go Go.RowKit

/-- A piece of numbers. -/
theorem Sl.piece {X : Nat → Prop} {w : World} {g o n c : Nat} {l : List Int} (h : Sl encU X w (.slice (some ⟨g, o, none⟩) n c) l) (a m : Nat) (hm : 0 < m) (ha : a + m ≤ l.length) : Sl encU X w (.slice (some ⟨g, o + a, none⟩) m m) ((l.drop a).take m) := by
  obtain ⟨A, c', e, h1, h2, h3⟩ := h
  injection e with e1 e2 e3
  subst e1 e3
  have hl : ((l.drop a).take m).length = m := by simp; omega
  obtain ⟨g', o', eA, lt, hX, hi⟩ := h3 (by intro e; rw [e] at ha; simp at ha; omega)
  injection eA with eA
  injection eA with eA1 eA2 _
  subst eA1 eA2
  refine ⟨_, m, by rw [hl], by rw [hl]; exact Nat.le_refl _, by omega, fun _ => ⟨g, o + a, rfl, lt, hX, fun i hi' => ?_⟩⟩
  have hi2 : i < m := by rw [hl] at hi'; exact hi'
  obtain ⟨cs, hr, hc⟩ := hi (a + i) (by omega)
  refine ⟨cs, ?_, fun j u hu => ?_⟩
  · have e : ((l.drop a).take m)[i] = l[a + i] := by simp
    rw [e]
    exact hr
  · have := hc j u hu
    rw [show o + a + i * encU.size + j = o + (a + i) * encU.size + j by show o + a + i * 1 + j = o + (a + i) * 1 + j; omega]
    exact this
/-- The pieces of a polynomial of two, of which the first j are laid. -/
def cellsT (gb ob t j : Nat) : List Value := (List.range t).map fun i => if i < j then .slice (some ⟨gb, ob + i * t, none⟩) t t else .slice none 0 0
theorem cellsT_set (gb ob t j : Nat) : (cellsT gb ob t j).set j (.slice (some ⟨gb, ob + j * t, none⟩) t t) = cellsT gb ob t (j + 1) := by
  refine List.ext_getElem (by simp [cellsT]) fun k h1 h2 => ?_
  rw [List.getElem_set]
  simp only [cellsT, List.getElem_map, List.getElem_range]
  split
  · rename_i e
    subst e
    rw [if_pos (by omega)]
  · rename_i e
    by_cases h : k < j
    · rw [if_pos h, if_pos (by omega)]
    · rw [if_neg h, if_neg (by omega)]
theorem pieces_sl {X : Nat → Prop} {w : World} {gb ob n c t Bo : Nat} {l : List Int} (h : Sl encU X w (.slice (some ⟨gb, ob, none⟩) n c) l) (ht : 0 < t) (ht2 : t ≤ 100) (hl : l.length = t * t) (hb : Bk w Bo 39 (cellsT gb ob t t).toArray) (hX : X Bo) : Sl (encS encU) X w (.slice (some ⟨Bo, 0, none⟩) t t) (chk t l t) := by
  have hlen : (chk t l t).length = t := chk_length _ _ _
  have := Sl.block (E := encS encU) (X := X) (xs := chk t l t) (c := t) hb hX ((cellsT gb ob t t).map fun v => [v]) (by simp [cellsT, hlen]) (fun i hi hi' => by
    have hit : i < t := by rw [hlen] at hi; exact hi
    have ha : i * t + t ≤ l.length := by
      rw [hl]
      have := Nat.mul_le_mul_right t (show i + 1 ≤ t from hit)
      rw [Nat.add_mul, Nat.one_mul] at this
      exact this
    have e1 : (chk t l t)[i] = (l.drop (i * t)).take t := by simp [chk]
    have e2 : ((cellsT gb ob t t).map fun v => [v])[i] = [.slice (some ⟨gb, ob + i * t, none⟩) t t] := by simp [cellsT, hit]
    rw [e1, e2]
    exact ⟨_, rfl, h.piece (i * t) t ht ha⟩) (by rw [flatten_singles]) (by rw [hlen]; exact Nat.le_refl _) (by omega)
  rwa [hlen] at this
set_option maxRecDepth 100000 in
set_option maxHeartbeats 4000000 in
theorem two2_any {g : Nat} {dr : Nat → Int} {TI : Nat → World → Prop} {bl : Nat → Prop} {most : Nat} (p : Par) (hT : Tp g p.Q dr TI bl most) (x : Int) (k : Nat) (w : World) (hx : U64 x) (hq : U64 p.Q) (hq0 : 0 < p.Q) (ht : p.T = 1) (hk : k + 3 ≤ most) (hI : TI k w) :
    Calls Tryz.prog 48 #[p.v, .int .u64 x, .func (.func 41) #[.pointer (some ⟨g, 0, none⟩)] #[]] w fun e w' => ∃ v, e = .returned v ∧ Sl (encS encU) (fun b => w.heap.size ≤ b) w' v (chk 2 (behI x p.Q dr 3 k) 2) ∧ TI (k + 3) w' ∧ w.grownBy w' (some g) := by
  obtain ⟨w0, hw0⟩ : ∃ y, y = w.alloc (Obj.cells p.cells 24) := ⟨_, rfl⟩
  have HG0 : Hid (w.grownBy w0 none) := Lib.hid (by rw [hw0]; exact World.grownBy_alloc w _ none)
  have HB0 : Hid (Bk w0 w.heap.size 24 p.cells) := Lib.hid (by rw [hw0]; exact Bk.new w _ _)
  have HI0 : Hid (TI k w0) := Lib.hid (hT.keep hI HG0.out (by simp))
  have HBH := Lib.hid (behind_any hT x 3 k w0 hx hq hq0 (by decide) hk HI0.out)
  have hp0 := HB0.out.prule
  have HT := Lib.hid hT
  have HOB : Hid (∀ b, bl b → b < w.heap.size) := Lib.hid (fun b hb => hT.old hI hb)
  have HGW : Hid (g < w.heap.size) := Lib.hid (hT.old hI hT.own)
  clear hT hI hx hq hq0
  go_enter Tryz.func48, Tryz.ntmps48
  go_wp2_with fail
  rw [← hw0]
  clear hw0
  go_wp2_with fail
  refine HBH.out.mono ?_
  rintro e w1 ⟨v8, rfl, hs1, hi1, hg1⟩
  obtain ⟨A8, c8, e8, hc8, hc8b⟩ := hs1.form
  rw [behI_len] at e8 hc8
  obtain ⟨gb, ob, c8', e8', hgb, hgb2, _, _⟩ := hs1.atU (k := 0) (by rw [behI_len]; decide)
  rw [e8] at e8'
  injection e8' with e81 e82 e83
  subst e81
  have e8 : v8 = .slice (some ⟨gb, ob, none⟩) 4 c8 := e8
  have hc8 : 4 ≤ c8 := hc8
  subst e8
  have HS1 := Lib.hid hs1
  have HI1 := Lib.hid hi1
  have HG1 : Hid (w.grownBy w1 (some g)) := Lib.hid ((HG0.out.but _).trans hg1)
  have HBB : Hid (w.heap.size ≤ gb ∧ gb < w1.heap.size) := Lib.hid ⟨Nat.le_trans HG0.out.size hgb2, hgb⟩
  have hmk := run_make_row' (P := Tryz.prog) 35 39 (.slice none 0 0) 24 Tryz.underlying35 info_nums rfl .i64 .i64 2 (by decide) (by decide) w1
  have hmk : (Instr.makeSlice 35 (.int .i64 2) (.int .i64 2)).run Tryz.prog w1 = .ok (.slice (some ⟨w1.heap.size, 0, none⟩) 2 2) (w1.alloc (.cells (madeCells #[.slice none 0 0] 2) 39)) := hmk
  obtain ⟨D0, hD0⟩ : ∃ y, y = w1.alloc (.cells (madeCells #[.slice none 0 0] 2) 39) := ⟨_, rfl⟩
  obtain ⟨Bo, hBo⟩ : ∃ y, y = w1.heap.size := ⟨_, rfl⟩
  have HGD : Hid (w1.grownBy D0 none) := Lib.hid (by rw [hD0]; exact World.grownBy_alloc _ _ none)
  have HBO : Hid (Bk D0 Bo 39 (cellsT gb ob 2 0).toArray) := Lib.hid (by
    rw [hD0, hBo]
    exact (Bk.new w1 39 (madeCells #[.slice none 0 0] 2)).of_eq (Array.toList_inj.1 (by rw [toList_madeCells_one]; rfl)))
  have HBS : Hid (Bo = w1.heap.size) := Lib.hid hBo
  have hp1 : ∀ o, w1.cell? ⟨w.heap.size, o, none⟩ = (#[.int .u64 p.P, .int .u64 p.Q, .int .u64 p.G, .int .u64 p.H, .int .i64 p.Nodes, .int .i64 p.N, .int .i64 p.T, .int .i64 p.K, .int .i64 p.D, .int .i64 p.R, .int .i64 p.M, .int .i64 p.X] : Array Value)[o]? := (HB0.out.grown hg1 (fun e => by injection e with e; have := HGW.out; omega)).prule
  clear hs1 hi1 hg1 hgb hgb2 e82 e83 hc8b
  go_upto_region 5 with (fail)
  rw [← hD0, ← hBo]
  clear hD0 hBo hmk hp1
  go_loopg [27] 2 (fun gk s27 wx => ∃ j : Nat, j + gk = 2 ∧ s27 = .int .i64 j ∧ Hid (Bk wx Bo 39 (cellsT gb ob 2 j).toArray ∧ D0.grownBy wx (some Bo)))
  case atStart => exact ⟨0, by omega, rfl, Lib.hid ⟨HBO.out, World.grownBy.refl _ _⟩⟩
  case round =>
    obtain ⟨j, hj, rfl, HX⟩ := hrel
    cases gk with
    | zero =>
      obtain rfl : j = 2 := by omega
      have hno : ¬ ((2 : Int) < 2) := by omega
      have HR : Hid (Sl (encS encU) (fun b => w.heap.size ≤ b) wr (.slice (some ⟨Bo, 0, none⟩) 2 2) (chk 2 (behI x p.Q dr 3 k) 2) ∧ TI (k + 3) wr ∧ w.grownBy wr (some g)) := Lib.hid (by
        have hs := ((HS1.out.bounded.kept HGD.out).keep HX.out.2 (fun b hb e => by injection e with e; have := HBS.out; have := hb.2; omega)).more (Y := fun b => w.heap.size ≤ b) fun b _ hb => Nat.le_trans HG0.out.size hb.1
        refine ⟨pieces_sl hs (by decide) (by decide) (by rw [behI_len]) HX.out.1 (by have := HBB.out; have := HBS.out; omega), HT.out.keep (HT.out.keep HI1.out HGD.out (by simp)) HX.out.2 (fun b e hb => by injection e with e; have := HOB.out b hb; have := HBB.out; have := HBS.out; omega), (HG1.out.trans (HGD.out.but _)).andThen HX.out.2 (fun b e => .inl (by injection e with e; have := HBB.out; have := HBS.out; omega))⟩)
      clear HX
      go_wp2
      go_ret
      exact ⟨_, rfl, HR.out⟩
    | succ m =>
      have hj2 : j < 2 := by omega
      have hjI : (j : Int) < 2 := by omega
      have hj0 : (0 : Int) ≤ (j : Int) := Int.natCast_nonneg j
      have hb := HX.out.1
      have c0 : wr.cell? ⟨Bo, j, none⟩ = some (.slice none 0 0) := by rw [hb.cell j]; simp [cellsT, hj2]
      have f0 := hb.free
      have HFIN : Hid (Bk (wr.setCell ⟨Bo, j, none⟩ (.slice (some ⟨gb, ob + j * 2, none⟩) ((j + 1) * 2 - j * 2) ((j + 1) * 2 - j * 2))) Bo 39 (cellsT gb ob 2 (j + 1)).toArray ∧ D0.grownBy (wr.setCell ⟨Bo, j, none⟩ (.slice (some ⟨gb, ob + j * 2, none⟩) ((j + 1) * 2 - j * 2) ((j + 1) * 2 - j * 2))) (some Bo)) := Lib.hid ⟨(hb.set j _).of_eq (by
        rw [show (j + 1) * 2 - j * 2 = 2 by omega, ← cellsT_set]
        simp), HX.out.2.trans (grownSet wr Bo _ _)⟩
      clear hb
      go_wp2_with fail
      go_roundg m
      case measure => omega
      case rel => exact ⟨j + 1, by omega, by go_num, HFIN⟩
set_option maxRecDepth 100000 in
set_option maxHeartbeats 4000000 in
theorem two3_any {g : Nat} {dr : Nat → Int} {TI : Nat → World → Prop} {bl : Nat → Prop} {most : Nat} (p : Par) (hT : Tp g p.Q dr TI bl most) (x : Int) (k : Nat) (w : World) (hx : U64 x) (hq : U64 p.Q) (hq0 : 0 < p.Q) (ht : p.T = 2) (hk : k + 8 ≤ most) (hI : TI k w) :
    Calls Tryz.prog 48 #[p.v, .int .u64 x, .func (.func 41) #[.pointer (some ⟨g, 0, none⟩)] #[]] w fun e w' => ∃ v, e = .returned v ∧ Sl (encS encU) (fun b => w.heap.size ≤ b) w' v (chk 3 (behI x p.Q dr 8 k) 3) ∧ TI (k + 8) w' ∧ w.grownBy w' (some g) := by
  obtain ⟨w0, hw0⟩ : ∃ y, y = w.alloc (Obj.cells p.cells 24) := ⟨_, rfl⟩
  have HG0 : Hid (w.grownBy w0 none) := Lib.hid (by rw [hw0]; exact World.grownBy_alloc w _ none)
  have HB0 : Hid (Bk w0 w.heap.size 24 p.cells) := Lib.hid (by rw [hw0]; exact Bk.new w _ _)
  have HI0 : Hid (TI k w0) := Lib.hid (hT.keep hI HG0.out (by simp))
  have HBH := Lib.hid (behind_any hT x 8 k w0 hx hq hq0 (by decide) hk HI0.out)
  have hp0 := HB0.out.prule
  have HT := Lib.hid hT
  have HOB : Hid (∀ b, bl b → b < w.heap.size) := Lib.hid (fun b hb => hT.old hI hb)
  have HGW : Hid (g < w.heap.size) := Lib.hid (hT.old hI hT.own)
  clear hT hI hx hq hq0
  go_enter Tryz.func48, Tryz.ntmps48
  go_wp2_with fail
  rw [← hw0]
  clear hw0
  go_wp2_with fail
  refine HBH.out.mono ?_
  rintro e w1 ⟨v8, rfl, hs1, hi1, hg1⟩
  obtain ⟨A8, c8, e8, hc8, hc8b⟩ := hs1.form
  rw [behI_len] at e8 hc8
  obtain ⟨gb, ob, c8', e8', hgb, hgb2, _, _⟩ := hs1.atU (k := 0) (by rw [behI_len]; decide)
  rw [e8] at e8'
  injection e8' with e81 e82 e83
  subst e81
  have e8 : v8 = .slice (some ⟨gb, ob, none⟩) 9 c8 := e8
  have hc8 : 9 ≤ c8 := hc8
  subst e8
  have HS1 := Lib.hid hs1
  have HI1 := Lib.hid hi1
  have HG1 : Hid (w.grownBy w1 (some g)) := Lib.hid ((HG0.out.but _).trans hg1)
  have HBB : Hid (w.heap.size ≤ gb ∧ gb < w1.heap.size) := Lib.hid ⟨Nat.le_trans HG0.out.size hgb2, hgb⟩
  have hmk := run_make_row' (P := Tryz.prog) 35 39 (.slice none 0 0) 24 Tryz.underlying35 info_nums rfl .i64 .i64 3 (by decide) (by decide) w1
  have hmk : (Instr.makeSlice 35 (.int .i64 3) (.int .i64 3)).run Tryz.prog w1 = .ok (.slice (some ⟨w1.heap.size, 0, none⟩) 3 3) (w1.alloc (.cells (madeCells #[.slice none 0 0] 3) 39)) := hmk
  obtain ⟨D0, hD0⟩ : ∃ y, y = w1.alloc (.cells (madeCells #[.slice none 0 0] 3) 39) := ⟨_, rfl⟩
  obtain ⟨Bo, hBo⟩ : ∃ y, y = w1.heap.size := ⟨_, rfl⟩
  have HGD : Hid (w1.grownBy D0 none) := Lib.hid (by rw [hD0]; exact World.grownBy_alloc _ _ none)
  have HBO : Hid (Bk D0 Bo 39 (cellsT gb ob 3 0).toArray) := Lib.hid (by
    rw [hD0, hBo]
    exact (Bk.new w1 39 (madeCells #[.slice none 0 0] 3)).of_eq (Array.toList_inj.1 (by rw [toList_madeCells_one]; rfl)))
  have HBS : Hid (Bo = w1.heap.size) := Lib.hid hBo
  have hp1 : ∀ o, w1.cell? ⟨w.heap.size, o, none⟩ = (#[.int .u64 p.P, .int .u64 p.Q, .int .u64 p.G, .int .u64 p.H, .int .i64 p.Nodes, .int .i64 p.N, .int .i64 p.T, .int .i64 p.K, .int .i64 p.D, .int .i64 p.R, .int .i64 p.M, .int .i64 p.X] : Array Value)[o]? := (HB0.out.grown hg1 (fun e => by injection e with e; have := HGW.out; omega)).prule
  clear hs1 hi1 hg1 hgb hgb2 e82 e83 hc8b
  go_upto_region 5 with (fail)
  rw [← hD0, ← hBo]
  clear hD0 hBo hmk hp1
  go_loopg [27] 3 (fun gk s27 wx => ∃ j : Nat, j + gk = 3 ∧ s27 = .int .i64 j ∧ Hid (Bk wx Bo 39 (cellsT gb ob 3 j).toArray ∧ D0.grownBy wx (some Bo)))
  case atStart => exact ⟨0, by omega, rfl, Lib.hid ⟨HBO.out, World.grownBy.refl _ _⟩⟩
  case round =>
    obtain ⟨j, hj, rfl, HX⟩ := hrel
    cases gk with
    | zero =>
      obtain rfl : j = 3 := by omega
      have hno : ¬ ((3 : Int) < 3) := by omega
      have HR : Hid (Sl (encS encU) (fun b => w.heap.size ≤ b) wr (.slice (some ⟨Bo, 0, none⟩) 3 3) (chk 3 (behI x p.Q dr 8 k) 3) ∧ TI (k + 8) wr ∧ w.grownBy wr (some g)) := Lib.hid (by
        have hs := ((HS1.out.bounded.kept HGD.out).keep HX.out.2 (fun b hb e => by injection e with e; have := HBS.out; have := hb.2; omega)).more (Y := fun b => w.heap.size ≤ b) fun b _ hb => Nat.le_trans HG0.out.size hb.1
        refine ⟨pieces_sl hs (by decide) (by decide) (by rw [behI_len]) HX.out.1 (by have := HBB.out; have := HBS.out; omega), HT.out.keep (HT.out.keep HI1.out HGD.out (by simp)) HX.out.2 (fun b e hb => by injection e with e; have := HOB.out b hb; have := HBB.out; have := HBS.out; omega), (HG1.out.trans (HGD.out.but _)).andThen HX.out.2 (fun b e => .inl (by injection e with e; have := HBB.out; have := HBS.out; omega))⟩)
      clear HX
      go_wp2
      go_ret
      exact ⟨_, rfl, HR.out⟩
    | succ m =>
      have hj2 : j < 3 := by omega
      have hjI : (j : Int) < 3 := by omega
      have hj0 : (0 : Int) ≤ (j : Int) := Int.natCast_nonneg j
      have hb := HX.out.1
      have c0 : wr.cell? ⟨Bo, j, none⟩ = some (.slice none 0 0) := by rw [hb.cell j]; simp [cellsT, hj2]
      have f0 := hb.free
      have HFIN : Hid (Bk (wr.setCell ⟨Bo, j, none⟩ (.slice (some ⟨gb, ob + j * 3, none⟩) ((j + 1) * 3 - j * 3) ((j + 1) * 3 - j * 3))) Bo 39 (cellsT gb ob 3 (j + 1)).toArray ∧ D0.grownBy (wr.setCell ⟨Bo, j, none⟩ (.slice (some ⟨gb, ob + j * 3, none⟩) ((j + 1) * 3 - j * 3) ((j + 1) * 3 - j * 3))) (some Bo)) := Lib.hid ⟨(hb.set j _).of_eq (by
        rw [show (j + 1) * 3 - j * 3 = 3 by omega, ← cellsT_set]
        simp), HX.out.2.trans (grownSet wr Bo _ _)⟩
      clear hb
      go_wp2_with fail
      go_roundg m
      case measure => omega
      case rel => exact ⟨j + 1, by omega, by go_num, HFIN⟩
end Go.Proofs.YtiimippmihkgcaaGreatDoor

namespace Go.Proofs.YtiimippmihkgcaaGreatDoor
open Go Go.RowKit

/-- Pairs, cell by cell. -/
def pcs (l : List (Int × Int)) : List Value := l.flatMap fun x => [.int .u64 x.1, .int .u64 x.2]
theorem pcs_cons (x : Int × Int) (l : List (Int × Int)) : pcs (x :: l) = .int .u64 x.1 :: .int .u64 x.2 :: pcs l := rfl
theorem pcs_get0 : ∀ (l : List (Int × Int)) (k : Nat) (h : k < l.length), (pcs l)[k * 2]? = some (.int .u64 l[k].1)
  | x :: l, 0, _ => rfl
  | x :: l, k + 1, h => by
    rw [pcs_cons, show (k + 1) * 2 = k * 2 + 1 + 1 by omega, List.getElem?_cons_succ, List.getElem?_cons_succ]
    exact pcs_get0 l k (by simpa using h)
theorem pcs_get1 : ∀ (l : List (Int × Int)) (k : Nat) (h : k < l.length), (pcs l)[k * 2 + 1]? = some (.int .u64 l[k].2)
  | x :: l, 0, _ => rfl
  | x :: l, k + 1, h => by
    rw [pcs_cons, show (k + 1) * 2 + 1 = k * 2 + 1 + 1 + 1 by omega, List.getElem?_cons_succ, List.getElem?_cons_succ]
    exact pcs_get1 l k (by simpa using h)
theorem pcs_set0 (a : Int) : ∀ (l : List (Int × Int)) (k : Nat) (h : k < l.length), (pcs l).set (k * 2) (.int .u64 a) = pcs (l.set k (a, l[k].2))
  | x :: l, 0, _ => rfl
  | x :: l, k + 1, h => by
    rw [pcs_cons, show (k + 1) * 2 = k * 2 + 1 + 1 by omega, List.set_cons_succ, List.set_cons_succ, pcs_set0 a l k (by simpa using h)]
    rfl
theorem pcs_set1 (a : Int) : ∀ (l : List (Int × Int)) (k : Nat) (h : k < l.length), (pcs l).set (k * 2 + 1) (.int .u64 a) = pcs (l.set k (l[k].1, a))
  | x :: l, 0, _ => rfl
  | x :: l, k + 1, h => by
    rw [pcs_cons, show (k + 1) * 2 + 1 = k * 2 + 1 + 1 + 1 by omega, List.set_cons_succ, List.set_cons_succ, pcs_set1 a l k (by simpa using h)]
    rfl
theorem pcs_rep : ∀ n : Nat, pcs (List.replicate n (0, 0)) = List.replicate (n * 2) (.int .u64 0)
  | 0 => rfl
  | n + 1 => by
    rw [List.replicate_succ, pcs_cons, pcs_rep n, show (n + 1) * 2 = n * 2 + 1 + 1 by omega, List.replicate_succ, List.replicate_succ]
theorem made_pairs (n : Nat) : (madeCells #[.int .u64 0, .int .u64 0] (n * 2)).toList = pcs (List.replicate n (0, 0)) := by
  rw [pcs_rep]
  refine List.ext_getElem (by simp [size_madeCells]) fun j h1 h2 => ?_
  have hj : j < n * 2 := by simpa using h2
  simp only [madeCells, Array.toList_map, List.getElem_map, List.getElem_replicate]
  simp
  have : j % 2 = 0 ∨ j % 2 = 1 := by omega
  rcases this with h | h <;> simp [h]
theorem sl_pcs {w : World} {g : Nat} {l : List (Int × Int)} (h : Bk w g 70 (pcs l).toArray) (hu : ∀ x ∈ l, U64 x.1 ∧ U64 x.2) (hb : l.length ≤ 100000) : Sl encP TT w (.slice (some ⟨g, 0, none⟩) l.length l.length) l := by
  refine Sl.block h trivial (l.map fun x => [.int .u64 x.1, .int .u64 x.2]) (by simp) (fun i hi hi' => ?_) ?_ (Nat.le_refl _) (by omega)
  · simp only [List.getElem_map]
    exact ⟨rfl, hu _ (List.getElem_mem hi)⟩
  · simp [pcs, List.flatMap]
theorem sl_pcs' {X : Nat → Prop} {w : World} {g : Nat} {l : List (Int × Int)} (h : Bk w g 70 (pcs l).toArray) (hX : X g) (hu : ∀ x ∈ l, U64 x.1 ∧ U64 x.2) (hb : l.length ≤ 100000) : Sl encP X w (.slice (some ⟨g, 0, none⟩) l.length l.length) l := by
  refine Sl.block h hX (l.map fun x => [.int .u64 x.1, .int .u64 x.2]) (by simp) (fun i hi hi' => ?_) ?_ (Nat.le_refl _) (by omega)
  · simp only [List.getElem_map]
    exact ⟨rfl, hu _ (List.getElem_mem hi)⟩
  · simp [pcs, List.flatMap]
theorem make_pairs (n : Nat) (hn : n ≤ 100000) : ∀ w', (Instr.makeSlice 51 (.int .i64 (n : Int)) (.int .i64 (n : Int))).run Tryz.prog w' = .ok (.slice (some ⟨w'.heap.size, 0, none⟩) n n) (w'.alloc (.cells (madeCells #[.int .u64 0, .int .u64 0] (n * 2)) 70)) := fun w' => by
  obtain ⟨i, hi, hz⟩ := Option.map_eq_some_iff.1 info_pair
  simp only [Prod.mk.injEq] at hz
  obtain ⟨hz1, hz2, hz3⟩ := hz
  have hr := run_make (P := Tryz.prog) w' 51 70 i _ Tryz.underlying51 hi hz1 .i64 .i64 (n : Int) (n : Int) (by omega) (Int.le_refl _) (by rw [hz3]; omega) (by omega)
  rw [hz2, Int.toNat_natCast] at hr
  exact hr
end Go.Proofs.YtiimippmihkgcaaGreatDoor

namespace Go.Proofs.YtiimippmihkgcaaGreatDoor
open Go Go.RowKit

/-- Two lists, number by number; of which the first j are filled in. -/
def zipP (a b : List Int) (n : Nat) : List (Int × Int) := (List.range n).map fun k => (a[k]?.getD 0, b[k]?.getD 0)
def zipJ (a b : List Int) (n j : Nat) : List (Int × Int) := (List.range n).map fun k => if k < j then (a[k]?.getD 0, b[k]?.getD 0) else (0, 0)
theorem zipJ_len (a b : List Int) (n j : Nat) : (zipJ a b n j).length = n := by simp [zipJ]
theorem zipJ_zero (a b : List Int) (n : Nat) : zipJ a b n 0 = List.replicate n (0, 0) := by
  refine List.ext_getElem (by simp [zipJ]) fun j h1 h2 => ?_
  simp [zipJ]
theorem zipJ_all (a b : List Int) (n : Nat) : zipJ a b n n = zipP a b n := List.map_congr_left fun _ hk => if_pos (List.mem_range.1 hk)
theorem zipJ_set (a b : List Int) (n j : Nat) : (zipJ a b n j).set j (a[j]?.getD 0, b[j]?.getD 0) = zipJ a b n (j + 1) := by
  refine List.ext_getElem (by simp [zipJ]) fun k h1 h2 => ?_
  rw [List.getElem_set]
  simp only [zipJ, List.getElem_map, List.getElem_range]
  split
  · rename_i e
    subst e
    rw [if_pos (by omega)]
  · rename_i e
    by_cases h : k < j
    · rw [if_pos h, if_pos (by omega)]
    · rw [if_neg h, if_neg (by omega)]
set_option maxRecDepth 100000 in
set_option maxHeartbeats 2000000 in
theorem dpairs2_any (v1 v2 : Value) (a b : List Int) (n : Nat) (X Y : Nat → Prop) (w : World) (h1 : Sl encU X w v1 a) (h2 : Sl encU Y w v2 b) (ha : a.length = n) (hb : b.length = n) (hn : n ≤ 1000) :
    Calls Tryz.prog 50 #[v1, v2] w (Gives encP (fun g => w.heap.size ≤ g) w (zipP a b n)) := by
  have H1 := Lib.hid h1.bounded
  have H2 := Lib.hid h2.bounded
  obtain ⟨A1, c1, rfl, _, _⟩ := h1.form
  obtain ⟨A2, c2, rfl, _, _⟩ := h2.form
  have HA := Lib.hid ha
  have HB := Lib.hid hb
  rw [ha] at H1 ⊢
  rw [hb] at H2 ⊢
  have hmk := make_pairs n (by omega) w
  obtain ⟨D0, hD0⟩ : ∃ y, y = w.alloc (.cells (madeCells #[.int .u64 0, .int .u64 0] (n * 2)) 70) := ⟨_, rfl⟩
  obtain ⟨Bo, hBo⟩ : ∃ y, y = w.heap.size := ⟨_, rfl⟩
  have HGD : Hid (w.grownBy D0 none) := Lib.hid (by rw [hD0]; exact World.grownBy_alloc _ _ none)
  have HBO : Hid (Bk D0 Bo 70 (pcs (zipJ a b n 0)).toArray) := Lib.hid (by
    rw [hD0, hBo, zipJ_zero, ← made_pairs]
    exact Bk.new w _ _)
  have HX1 : Hid (∀ wx, D0.grownBy wx (some Bo) → Sl encU (fun g => g < Bo) wx (.slice A1 n c1) a) := Lib.hid (fun wx hg => ((H1.out.kept HGD.out).more (Y := fun g => g < Bo) fun g _ hx => by rw [hBo]; exact hx.2).keep hg (fun g hx e => by injection e with e; omega))
  have HX2 : Hid (∀ wx, D0.grownBy wx (some Bo) → Sl encU (fun g => g < Bo) wx (.slice A2 n c2) b) := Lib.hid (fun wx hg => ((H2.out.kept HGD.out).more (Y := fun g => g < Bo) fun g _ hx => by rw [hBo]; exact hx.2).keep hg (fun g hx e => by injection e with e; omega))
  have HUA : Hid (∀ k, U64 (a[k]?.getD 0) ∧ U64 (b[k]?.getD 0)) := Lib.hid (fun k => by
    have key : ∀ (l : List Int) (Z : Nat → Prop) (v : Value), Sl encU Z w v l → U64 (l[k]?.getD 0) := fun l Z v h => by
      rcases Nat.lt_or_ge k l.length with hk | hk
      · obtain ⟨_, _, _, _, _, _, _, u⟩ := h.atU hk
        rw [List.getElem?_eq_getElem hk]
        exact u
      · rw [List.getElem?_eq_none hk]
        exact ⟨by decide, by decide⟩
    exact ⟨key a X _ h1, key b Y _ h2⟩)
  have HBS : Hid (Bo = w.heap.size) := Lib.hid hBo
  clear h1 h2 ha hb
  go_enter Tryz.func50, Tryz.ntmps50
  go_upto_region 3 with (fail)
  rw [← hD0, ← hBo]
  clear hD0 hBo hmk
  go_loopg [12] n (fun g s12 wx => ∃ j : Nat, j + g = n ∧ s12 = .int .i64 j ∧ Hid (Bk wx Bo 70 (pcs (zipJ a b n j)).toArray ∧ D0.grownBy wx (some Bo)))
  case atStart => exact ⟨0, by omega, rfl, Lib.hid ⟨HBO.out, World.grownBy.refl _ _⟩⟩
  case round =>
    obtain ⟨j, hj, rfl, HX⟩ := hrel
    cases gk with
    | zero =>
      obtain rfl : j = n := by omega
      have hno : ¬ ((j : Int) < (j : Int)) := by omega
      have HR : Hid (Sl encP (fun g => w.heap.size ≤ g) wr (.slice (some ⟨Bo, 0, none⟩) j j) (zipP a b j) ∧ w.grownBy wr none) := Lib.hid ⟨by
        have hsl := sl_pcs' (X := fun g => w.heap.size ≤ g) HX.out.1 (by rw [HBS.out]; exact Nat.le_refl _) (fun x hx => by
          obtain ⟨k, _, rfl⟩ := List.mem_map.1 hx
          split
          · exact HUA.out k
          · exact ⟨⟨by decide, by decide⟩, ⟨by decide, by decide⟩⟩) (by rw [zipJ_len]; omega)
        rw [zipJ_len, zipJ_all] at hsl
        exact hsl, grown_up HGD.out HX.out.2 (fun g e => by injection e with e; rw [← e, HBS.out]; exact Nat.le_refl _)⟩
      clear HX
      go_wp2
      go_ret
      exact ⟨_, rfl, HR.out.1, HR.out.2⟩
    | succ m =>
      have hjn : (j : Int) < (n : Int) := by omega
      have hja : j < a.length := by rw [HA.out]; omega
      have hjb : j < b.length := by rw [HB.out]; omega
      have hj0 : (0 : Int) ≤ (j : Int) := Int.natCast_nonneg j
      obtain ⟨hbo, hgd⟩ := HX.out
      obtain ⟨g1, o1, c1', e1, hl1, hg1, hc1, hu1⟩ := (HX1.out _ hgd).atU hja
      injection e1 with e11 e12 e13
      subst e11 e13
      obtain ⟨g2, o2, c2', e2, hl2, hg2, hc2, hu2⟩ := (HX2.out _ hgd).atU hjb
      injection e2 with e21 e22 e23
      subst e21 e23
      have HZL : Hid (j < (zipJ a b n j).length) := Lib.hid (by rw [zipJ_len]; omega)
      have HAT : Hid (((pcs (zipJ a b n j)).set (j * 2) (.int .u64 a[j])).set (j * 2 + 1) (.int .u64 b[j]) = pcs (zipJ a b n (j + 1))) := Lib.hid (by
        have hs := zipJ_set a b n j
        rw [List.getElem?_eq_getElem hja, List.getElem?_eq_getElem hjb, Option.getD_some, Option.getD_some] at hs
        rw [pcs_set0 _ _ j HZL.out, pcs_set1 _ _ j (by simpa using HZL.out), List.set_set, ← hs]
        simp)
      obtain ⟨x, hx⟩ : ∃ y, y = a[j] := ⟨_, rfl⟩
      obtain ⟨y, hy⟩ : ∃ y, y = b[j] := ⟨_, rfl⟩
      rw [← hx] at hc1 hu1 HAT
      rw [← hy] at hc2 hu2 HAT
      have HDR : Hid (wr.grownBy wr.drew none) := Lib.hid (grown_drewN' _ 1)
      have HLD : Hid (∀ W, wr.drew.grownBy W none → W.cell? ⟨g1, o1 + j, none⟩ = some (.int .u64 x) ∧ W.cell? ⟨g2, o2 + j, none⟩ = some (.int .u64 y)) := Lib.hid (fun W hg => ⟨cell_kept hc1 (HDR.out.trans hg) (by simp), cell_kept hc2 (HDR.out.trans hg) (by simp)⟩)
      have HBK := Lib.hid hbo
      have HGK := Lib.hid hgd
      obtain ⟨p1, p2, HPP⟩ : ∃ p1 p2 : Int, Hid ((pcs (zipJ a b n j)).toArray[j * 2]? = some (.int .u64 p1) ∧ (pcs (zipJ a b n j)).toArray[j * 2 + 1]? = some (.int .u64 p2)) := ⟨_, _, Lib.hid ⟨by simpa using pcs_get0 _ j HZL.out, by simpa using pcs_get1 _ j HZL.out⟩⟩
      clear hbo hgd hc1 hc2 hl1 hl2 hg1 hg2 hu1 hu2 hx hy hja hjb e12 e22 HX
      go_upto_region 5 with (fail)
      refine wp_region_mono 12 (by kernel_rfl) (by kernel_rfl) ?_
      -- op 0 (slot 15): move
      refine MonoR.step (Pv.eq (.slice (some ⟨Bo, 0, none⟩) n n)) [] (by kernel_rfl) (fun w' hw' => ?_) ?_
      · refine ask_do rfl fun K hK => ?_
        go_simp
        exact hK _ _ rfl rfl (World.grownBy.refl _ none)
      -- op 1 (slot 16): move
      refine MonoR.step (Pv.eq (.int .i64 (j : Int))) [] (by kernel_rfl) (fun w' hw' => ?_) ?_
      · refine ask_do rfl fun K hK => ?_
        go_simp
        exact hK _ _ rfl rfl (World.grownBy.refl _ none)
      -- op 2 (slot 17): move
      refine MonoR.step (Pv.eq (.slice (some ⟨g1, o1, none⟩) n c1)) [] (by kernel_rfl) (fun w' hw' => ?_) ?_
      · refine ask_do rfl fun K hK => ?_
        go_simp
        exact hK _ _ rfl rfl (World.grownBy.refl _ none)
      -- op 3 (slot 18): move
      refine MonoR.step (Pv.eq (.int .i64 (j : Int))) [] (by kernel_rfl) (fun w' hw' => ?_) ?_
      · refine ask_do rfl fun K hK => ?_
        go_simp
        exact hK _ _ rfl rfl (World.grownBy.refl _ none)
      -- op 4 (slot 19): indexAddr
      refine MonoR.step (Pv.eq (.pointer (some ⟨g1, o1 + j, none⟩))) [(2, 17), (3, 18)] (by kernel_rfl) (fun w' hw' => ?_) ?_
      · rintro _ rfl
        rintro _ rfl
        refine ask_do rfl fun K hK => ?_
        go_simp
        exact hK _ _ rfl rfl (World.grownBy.refl _ none)
      -- op 5 (slot 20): load
      refine MonoR.step (Pv.eq (.int .u64 x)) [(4, 19)] (by kernel_rfl) (fun w' hw' => ?_) ?_
      · rintro _ rfl
        refine ask_do rfl fun K hK => ?_
        obtain ⟨q0, q1⟩ := HLD.out w' hw'
        go_simp
        exact hK _ _ rfl rfl (World.grownBy.refl _ none)
      -- op 6 (slot 21): move
      refine MonoR.step (Pv.eq (.slice (some ⟨g2, o2, none⟩) n c2)) [] (by kernel_rfl) (fun w' hw' => ?_) ?_
      · refine ask_do rfl fun K hK => ?_
        go_simp
        exact hK _ _ rfl rfl (World.grownBy.refl _ none)
      -- op 7 (slot 22): move
      refine MonoR.step (Pv.eq (.int .i64 (j : Int))) [] (by kernel_rfl) (fun w' hw' => ?_) ?_
      · refine ask_do rfl fun K hK => ?_
        go_simp
        exact hK _ _ rfl rfl (World.grownBy.refl _ none)
      -- op 8 (slot 23): indexAddr
      refine MonoR.step (Pv.eq (.pointer (some ⟨g2, o2 + j, none⟩))) [(6, 21), (7, 22)] (by kernel_rfl) (fun w' hw' => ?_) ?_
      · rintro _ rfl
        rintro _ rfl
        refine ask_do rfl fun K hK => ?_
        go_simp
        exact hK _ _ rfl rfl (World.grownBy.refl _ none)
      -- op 9 (slot 24): load
      refine MonoR.step (Pv.eq (.int .u64 y)) [(8, 23)] (by kernel_rfl) (fun w' hw' => ?_) ?_
      · rintro _ rfl
        refine ask_do rfl fun K hK => ?_
        obtain ⟨q0, q1⟩ := HLD.out w' hw'
        go_simp
        exact hK _ _ rfl rfl (World.grownBy.refl _ none)
      -- op 10 (slot 25): build
      refine MonoR.step (Pv.eq (.agg #[.int .u64 x, .int .u64 y])) [(5, 20), (9, 24)] (by kernel_rfl) (fun w' hw' => ?_) ?_
      · rintro _ rfl
        rintro _ rfl
        refine ask_do rfl fun K hK => ?_
        go_simp
        exact hK _ _ rfl rfl (World.grownBy.refl _ none)
      -- op 11 (slot 26): indexAddr
      refine MonoR.step (Pv.eq (.pointer (some ⟨Bo, j * 2, none⟩))) [(0, 15), (1, 16)] (by kernel_rfl) (fun w' hw' => ?_) ?_
      · rintro _ rfl
        rintro _ rfl
        refine ask_do rfl fun K hK => ?_
        go_simp
        exact hK _ _ rfl rfl (World.grownBy.refl _ none)
      
      intro w3 hw3
      intro y0 k0 y1 k1 y2 k2 y3 k3 y4 k4 y5 k5 y6 k6 y7 k7 y8 k8 y9 k9 y10 k10 y11 k11
      show wpList Tryz.prog _ _ _ _ w3
      simp only [Act.put, List.setIfInBounds_toArray, List.set_cons_zero, List.set_cons_succ]
      have e10 : y10 = .agg #[.int .u64 x, .int .u64 y] := k10
      have e11 : y11 = .pointer (some ⟨Bo, j * 2, none⟩) := k11
      subst e10 e11
      have hb3 : Bk w3 Bo 70 (pcs (zipJ a b n j)).toArray := HBK.out.grown (HDR.out.trans hw3) (by simp)
      have d0 : w3.cell? ⟨Bo, j * 2, none⟩ = some (.int .u64 p1) := by rw [hb3.cell]; exact HPP.out.1
      have d1 : w3.cell? ⟨Bo, j * 2 + 1, none⟩ = some (.int .u64 p2) := by rw [hb3.cell]; exact HPP.out.2
      have f3 := hb3.free
      have HFIN : Hid (Bk ((w3.setCell ⟨Bo, j * 2, none⟩ (.int .u64 x)).setCell ⟨Bo, j * 2 + 1, none⟩ (.int .u64 y)) Bo 70 (pcs (zipJ a b n (j + 1))).toArray ∧ D0.grownBy ((w3.setCell ⟨Bo, j * 2, none⟩ (.int .u64 x)).setCell ⟨Bo, j * 2 + 1, none⟩ (.int .u64 y)) (some Bo)) := Lib.hid ⟨((hb3.set (j * 2) (.int .u64 x)).set (j * 2 + 1) (.int .u64 y)).of_eq (by rw [← HAT.out]; simp), (HGK.out.trans ((HDR.out.trans hw3).but _)).trans ((grownSet w3 Bo _ _).trans (grownSet _ Bo _ _))⟩
      clear hw3 hb3 k0 k1 k2 k3 k4 k5 k6 k7 k8 k9 k10 k11 HLD
      go_wp2_with fail
      go_roundg m
      case measure => omega
      case rel => exact ⟨j + 1, by omega, by go_num, HFIN⟩
end Go.Proofs.YtiimippmihkgcaaGreatDoor
