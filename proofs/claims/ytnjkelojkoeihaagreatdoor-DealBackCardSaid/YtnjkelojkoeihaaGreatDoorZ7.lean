/- The same steps, where the region does not draw its order. consistorylaw18.works, walked (printed by mk_wk.py). consistoryref08.Nums, walked: whatever is compared. Params and pairs that came in by value. Draws alone leave the memory as it was; the table of bits as it is listed. deal.flat, deal.Flat, deal.Pack, walked (printed by mk_pack.py). The plain law of DealBack: what was packed is opened as it was. What is known of tuples and structs in closed laws. -/
import Derived.Test.YtnjkelojkoeihaaGreatDoorZ6
import Derived.ProofKit
import Derived.Deep.DeepCutAuto
namespace Go.Proofs.YtnjkelojkoeihaaGreatDoor
open Go

section
variable {P : Program} {Q : Exit → Act → World → Prop} {a0 : Act} {w0 : World}
def upTo (k m : Nat) : Array Bool := Array.replicate k true ++ Array.replicate (m - k) false
theorem upTo_at {k m i : Nat} (hk : k ≤ m) (d : Bool) : (upTo k m).getD i d = if i < k then true else if i < m then false else d := by
  unfold upTo
  rw [Array.getD_eq_getD_getElem?, Array.getElem?_append]
  by_cases h1 : i < k
  · simp [h1]
  · by_cases h2 : i < m
    · simp [h1, h2, show i - k < m - k by omega]
    · simp [h1, h2, show ¬ i - k < m - k by omega]
theorem upTo_set {k m : Nat} (hk : k < m) : (upTo k m).setIfInBounds k true = upTo (k + 1) m := by
  refine Array.ext (by simp [upTo]; omega) fun i h1 h2 => ?_
  have e1 := upTo_at (k := k + 1) (m := m) (i := i) (by omega) false
  have e2 := upTo_at (k := k) (m := m) (i := i) (by omega) false
  have h3 : i < (upTo k m).size := by simpa using h1
  rw [Array.getElem_setIfInBounds h3]
  rw [Array.getD_eq_getD_getElem?, Array.getElem?_eq_getElem h2] at e1
  rw [Array.getD_eq_getD_getElem?, Array.getElem?_eq_getElem h3] at e2
  simp only [Option.getD_some] at e1 e2
  rw [e1]
  split
  · rename_i h
    subst h
    simp
  · rename_i h
    rw [e2]
    by_cases h4 : i < k
    · simp [h4, show i < k + 1 by omega]
    · simp [h4, show ¬ i < k + 1 by omega]
def seqmB (ops : Array Oper) (n sz : Nat) : Bool := Region.noSelect ops && decide (n ≤ ops.size) && topoB ops n && distB ops n sz
theorem wpList_monoR {l : List Oper} (n : Nat) (hB : seqmB l.toArray n a0.tmps.size = true)
    (h : MonoR P l.toArray n a0 w0 (fun Vs => ∀ w, w0.grownBy w none → FinN P l.toArray Q w Vs l a0) n [] l) : wpList P l.toArray Q l a0 w0 := by
  obtain ⟨hM', hn'⟩ := MonoN.cut (MonoR.up h)
  simp only [seqmB, Bool.and_eq_true, decide_eq_true_eq] at hB
  obtain ⟨⟨⟨hsel, hn⟩, htopo⟩, hdist⟩ := hB
  obtain ⟨Vs, hVl, hF, hO⟩ := Mono.out hM'
  simp only [List.reverse_nil, List.nil_append, List.length_nil, Nat.zero_add] at hF hO
  have htl : (l.take n).length = n := by simp; omega
  have hVn : Vs.length = n := hVl.trans htl
  have hsz : l.toArray.size = l.length := by simp
  have key : ∀ m k a w, k + m = n → MInv l.toArray n a0 w0 Vs (upTo k l.toArray.size) a w → wpList P l.toArray Q (l.drop k) a w := by
    intro m
    induction m with
    | zero =>
      intro k a w hk inv
      obtain rfl : k = n := by omega
      have hk : ∀ (q : Nat) (V : Pv) (o : Oper), Vs[q]? = some V → (l.take k)[q]? = some o → V.p (match o.dst with | some d => a.eval (.tmp d) | none => undef) w := by
        intro q V o hv ho
        have hqn : q < k := by have := (List.getElem?_eq_some_iff.1 hv).1; omega
        have h1 := inv.known q V (by rw [upTo_at hn]; simp [hqn]) hv
        have h2 : dstAt l.toArray q = o.dst := by
          have : l[q]? = some o := by rw [List.getElem?_take, if_pos hqn] at ho; exact ho
          simp [dstAt, this]
        rw [h2] at h1
        have h3 : (match o.dst with | some d => a.eval (.tmp d) | none => undef) = valOf o.dst a := by cases o.dst <;> rfl
        rw [h3]
        exact h1
      have hcut := FinN.cut (by rw [hVn]; omega) (hF w inv.grown)
      rw [hVn] at hcut
      have hfin := Fin'.all hVl hk hcut
      have hon : onto a ((l.take k).map (·.dst)) a0 = a := by
        refine act_ext (fun t => onto_at a t _ _ inv.tsize.symm ?_) ((onto_defers _ _ _).trans inv.defers.symm)
        by_cases ht : some t ∈ (l.take k).map (·.dst)
        · exact .inl ht
        · refine .inr (inv.rest t fun j hj _ e => ht ?_).symm
          have hjl : j < l.length := by omega
          have : l[j].dst = some t := by simpa [dstAt, hjl] using e
          exact List.mem_map.2 ⟨l[j], List.mem_iff_getElem?.2 ⟨j, by rw [List.getElem?_take, if_pos hj, List.getElem?_eq_getElem hjl]⟩, this⟩
      rw [hon] at hfin
      exact hfin
    | succ m ih =>
      intro k a w hk inv
      have hkn : k < n := by omega
      have hkl : k < l.length := by omega
      have ho : l.toArray[k]? = some l[k] := by simp [hkl]
      have hnext : (l.take n)[k]? = some l[k] := by rw [List.getElem?_take, if_pos hkn, List.getElem?_eq_getElem hkl]
      obtain ⟨V, js, hV, hchk, hask⟩ := hO k l[k] hnext
      simp only [Bool.and_eq_true] at hchk
      obtain ⟨hpair, hlook⟩ := hchk
      have hu : (upTo k l.toArray.size).getD k true = false := by rw [upTo_at (by omega)]; simp [hkl]
      have hed : ∀ e ∈ l[k].after, Region.binds .any e = true → (upTo k l.toArray.size).getD e.on false = true := fun e he hb => by
        have ht := list_all_range htopo hkn
        simp only [ho, Option.map_some, Option.getD_some] at ht
        have := Array.all_eq_true_iff_forall_mem.1 ht e he
        rw [upTo_at (by omega)]
        simp only [hb, Bool.not_true, Bool.false_or, decide_eq_true_eq] at this
        simp [this]
      have hi : k ∈ Region.ready .any l.toArray (upTo k l.toArray.size) := mem_ready.2 ⟨hu, _, ho, hed⟩
      have hdst : ∀ d, l[k].dst = some d → d < a.tmps.size := by
        intro d hd
        have := list_all_range hdist hkn
        have h2 : dstAt l.toArray k = some d := by simp only [dstAt, ho]; exact hd
        rw [h2] at this
        simp only [Bool.and_eq_true, decide_eq_true_eq] at this
        rw [inv.tsize]
        exact this.1
      have hjs : ∀ x : Nat × Tmp, x ∈ js → dstAt l.toArray x.1 = some x.2 ∧ (upTo k l.toArray.size).getD x.1 false = true ∧ x.1 < k := by
        intro x hx
        have := List.all_eq_true.1 hpair x hx
        simp only [Bool.and_eq_true, beq_iff_eq] at this
        obtain ⟨oj, hoj, e, he, hb, hon⟩ := Region.waitsFor_spec this.2
        have hoo : l[k] = oj := Option.some.inj (ho.symm.trans hoj)
        subst hoo
        have ht := list_all_range htopo hkn
        simp only [ho, Option.map_some, Option.getD_some] at ht
        have ht := Array.all_eq_true_iff_forall_mem.1 ht e he
        simp only [hb, Bool.not_true, Bool.false_or, decide_eq_true_eq] at ht
        exact ⟨this.1, by rw [← hon]; exact hed e he hb, by rw [← hon]; exact ht⟩
      have hA := hask w inv.grown
      have hW := Ask.all (b := a) (fun x hx => by
        obtain ⟨h1, h2, h3⟩ := hjs x hx
        have hxl : x.1 < Vs.length := by omega
        have h4 : Vs[x.1]? = some Vs[x.1] := List.getElem?_eq_getElem hxl
        have h5 := inv.known x.1 _ h2 h4
        rw [h1] at h5
        have : (Vs.take k).getD x.1 Pv.any = Vs[x.1] := by
          rw [List.getD_eq_getElem?_getD, List.getElem?_take, if_pos h3, h4]
          rfl
        rw [this]
        exact h5) hA
      have hop := told_op (Q := Q) (ops := l.toArray) (a0 := a0) (a := a) (Region.noSelect_spec hsel k l[k] · · ho) hdst ((onto_size _ _ _).trans inv.tsize.symm) (fun t ht => by
        refine onto_at a t _ _ inv.tsize.symm ?_
        have h1 : (l[k].looksAt l.toArray).all (fun t => js.any (·.2 == t) || keptB l.toArray n k t) = true := by
          simpa only [lookB, ho, Option.map_some, Option.getD_some] using hlook
        have h2 := List.all_eq_true.1 h1 t ht
        simp only [Bool.or_eq_true] at h2
        rcases h2 with h2 | h2
        · left
          obtain ⟨x, hx, hxt⟩ := List.any_eq_true.1 h2
          exact List.mem_map.2 ⟨x, hx, by rw [beq_iff_eq.1 hxt]⟩
        · right
          refine (inv.rest t fun j hj hD e => ?_).symm
          have h3 := list_all_range h2 hj
          simp only [Bool.or_eq_true, bne_iff_ne, ne_eq, beq_iff_eq] at h3
          rcases h3 with (h3 | h3) | h3
          · exact h3 e
          · obtain ⟨oj, hoj, e', he', hb', hon⟩ := Region.waitsFor_spec h3
            have := inv.head.closed j oj hoj hD e' he' hb'
            rw [hon, getD_both hu] at this
            cases this
          · subst h3
            rw [getD_both hu] at hD
            cases hD) ho (onto_defers _ _ _) hW
      have hstep : wpOp P l.toArray Q k (wpList P l.toArray Q (l.drop (k + 1))) a w := wpOp_mono (fun a' w' hk' => by
        obtain ⟨v, ha, hv, hg⟩ := hk'
        have := minv_step inv hdist hi hkn ho hV (by omega) ha hv hg
        rw [upTo_set (by omega)] at this
        exact ih (k + 1) a' w' (by omega) this) hop
      rw [List.drop_eq_getElem_cons hkl]
      unfold wpOp at hstep
      simp only [ho] at hstep
      exact hstep
  refine key n 0 a0 w0 (by omega) ⟨⟨by simp [upTo], fun j oj hj hD => by rw [upTo_at (by omega)] at hD; simp at hD, fun t _ ht => by rw [upTo_at (by omega)]; simp at ht; simp [ht]⟩, World.grownBy.refl w0 none, rfl, rfl, fun _ _ => rfl, fun j V hD => by rw [upTo_at (by omega)] at hD; simp at hD⟩
theorem wp_region_seqm {l : List Oper} {id : Nat} (n : Nat) (hB : seqmB l.toArray n a0.tmps.size = true)
    (h : MonoR P l.toArray n a0 w0 (fun Vs => ∀ w, w0.grownBy w none → FinN P l.toArray Q w Vs l a0) n [] l) : (Code.region id l.toArray false).wp P Q a0 w0 :=
  wp_region_lit (wpList_monoR n hB h)
end
end Go.Proofs.YtnjkelojkoeihaaGreatDoor

namespace Go.Proofs.YtnjkelojkoeihaaGreatDoor
open Go Go.RowKit

set_option maxHeartbeats 400000 in
theorem small18_any (w : World) : Calls Tryz.prog 29 #[] w fun e w' => e = .returned ps.v ∧ w.grownBy w' none := by
  have HB := Lib.hid (Bk.new w 24 #[.int .u64 0, .int .u64 0, .int .u64 0, .int .u64 0, .int .i64 0, .int .i64 0, .int .i64 0, .int .i64 0, .int .i64 0, .int .i64 0, .int .i64 0, .int .i64 0])
  go_enter Tryz.func29, Tryz.ntmps29
  go_wp2
  first
    | (go_ret; exact ⟨rfl, World.grownBy.refl _ none⟩)
    | exact bodyPost_ret (v := ps.v) (by simp [results, Tryz.results29, go_sem]) rfl ⟨rfl, World.grownBy_alloc w _ none⟩
theorem sl_is {X : Nat → Prop} {w : World} {v : Value} {l : List Int} (h : Sl encU X w v l) : SlIs w v l := by
  obtain ⟨A, c, e, h1, h2, h3⟩ := h
  refine ⟨A, c, e, fun hn => ?_, h1, h2⟩
  obtain ⟨g, o, eA, lt, _, hi⟩ := h3 (fun e => hn (by rw [e]; rfl))
  refine ⟨g, o, eA, lt, fun j u hu => ?_⟩
  have hj : j < l.length := by
    rcases Nat.lt_or_ge j l.length with h | h
    · exact h
    · simp [nums, List.getElem?_eq_none h] at hu
  obtain ⟨cs, ⟨e1, _⟩, hc⟩ := hi j hj
  have := hc 0 (.int .u64 l[j]) (by rw [e1]; rfl)
  have hu2 : u = .int .u64 l[j] := by simp [nums, hj] at hu; exact hu.symm
  rw [hu2]
  simpa [encU] using this
/-- Where the worlds stand while the example is dealt. -/
def wkLt (D : World) (SH : List (List (Int × Int))) : Lt where
  C vs W := D.grownBy W none ∧ match vs with
    | [] => True
    | [x] => ∃ a b, x = .tuple #[a, b, .int .i64 0] ∧ Sl (encS encP) TT W a SH
    | _ => False
  R q W W' := match q with
    | 0 => ∃ b t cs, Bk W b t cs ∧ NoTwo cs ∧ W.grownBy W' (some b)
    | _ => False
  g := fun {vs X Y} ⟨h1, h2⟩ hg => ⟨h1.trans hg, by
    match vs, h2 with
    | [], h2 => exact h2
    | [_], ⟨a, b, c, d⟩ => exact ⟨a, b, c, d.kept hg⟩⟩
theorem wk_at {D : World} {SH : List (List (Int × Int))} {vs : List Value} {W : World} {x : Value} (hC : (wkLt D SH).C vs W) (h : vs[0]? = some x) : ∃ a b, x = .tuple #[a, b, .int .i64 0] := by
  obtain ⟨_, h2⟩ := hC
  match vs, h, h2 with
  | [y], h, ⟨a, b, c, _⟩ =>
    have h : some y = some x := h
    injection h with h
    exact ⟨a, b, h ▸ c⟩
def wkS {D : World} {SH : List (List (Int × Int))} (S : List Int) (hS : 2 ≤ S.length) : Qv (wkLt D SH) where
  p _ v W := Sl encU TT W v S
  fr := 0
  st := fun h hg => h.kept hg
  sr := fun {vs u v w w'} _ _ hR h => by
    match vs, hR with
    | [], hR =>
      obtain ⟨b, t, cs, hb, hc, hg⟩ : ∃ b t cs, Bk w b t cs ∧ NoTwo cs ∧ w.grownBy w' (some b) := hR
      exact ((sl_apartU h hS hb hc).keep hg (fun g hn e => hn (by injection e with e))).more fun _ _ _ => trivial
    | _ :: _, hR => exact hR.elim
def wkT {D : World} {SH : List (List (Int × Int))} (T : TS) : Qv (wkLt D SH) where
  p vs v W := vs = [] → ∃ b ga, v = .pointer (some ⟨b, 0, none⟩) ∧ TapeIs W b ga T ∧ ga < W.heap.size ∧ D.heap.size ≤ b
  fr := 0
  st := fun h hg e => by
    obtain ⟨b, ga, k1, k2, k3, k4⟩ := h e
    exact ⟨b, ga, k1, k2.kept hg, Nat.lt_of_lt_of_le k3 hg.size, k4⟩
  sr := fun _ _ _ _ e => absurd e (by simp)
def wkX {D : World} {SH : List (List (Int × Int))} : Qv (wkLt D SH) where
  p vs v _ := vs[0]? = some v
  fr := 0
  st := fun h _ => h
  sr := fun {vs u v w w'} _ _ _ h => by
    have := (List.getElem?_eq_some_iff.1 h).1
    rw [List.getElem?_append_left this]
    exact h
def wkE {D : World} {SH : List (List (Int × Int))} : Qv (wkLt D SH) where
  p vs v _ := ∃ b, vs[0]? = some (.tuple #[v, b, .int .i64 0])
  fr := 0
  st := fun {vs v w w'} ⟨b, h⟩ _ => ⟨b, h⟩
  sr := fun {vs u v w w'} _ _ _ ⟨b, h⟩ => ⟨b, by
    have := (List.getElem?_eq_some_iff.1 h).1
    rw [List.getElem?_append_left this]
    exact h⟩
abbrev T6 : TS := ⟨[1, 2, 3, 4, 5, 6], 0, 0⟩
abbrev dr6 : Nat → Int := fun k => (tsk 11 T6 k).val 11
abbrev SH6 : List (List (Int × Int)) := (List.range 4).map fun i : Nat => dealtI ps (dealFs [5, 7] 11 dr6 1 0 2) (dealRs 11 dr6 1 0 2) ((i : Int) + 1)
theorem sh6_0 : SH6[0]? = some [(6, 5), (0, 0)] := by decide +kernel
theorem sh6_len : SH6.length = 4 := by decide +kernel
theorem sl57 (w : World) : Sl encU TT (w.alloc (.cells #[.int .u64 5, .int .u64 7] 22)) (.slice (some ⟨w.heap.size, 0, none⟩) 2 2) [5, 7] := Sl.build [[.int .u64 5], [.int .u64 7]] rfl ⟨⟨rfl, by decide⟩, ⟨rfl, by decide⟩, trivial⟩ rfl (by decide)
theorem sl16 (w : World) : Sl encU TT (w.alloc (.cells #[.int .u64 1, .int .u64 2, .int .u64 3, .int .u64 4, .int .u64 5, .int .u64 6] 22)) (.slice (some ⟨w.heap.size, 0, none⟩) 6 6) [1, 2, 3, 4, 5, 6] := Sl.build [[.int .u64 1], [.int .u64 2], [.int .u64 3], [.int .u64 4], [.int .u64 5], [.int .u64 6]] rfl ⟨⟨rfl, by decide⟩, ⟨rfl, by decide⟩, ⟨rfl, by decide⟩, ⟨rfl, by decide⟩, ⟨rfl, by decide⟩, ⟨rfl, by decide⟩, trivial⟩ rfl (by decide)
theorem zeros_sl (w : World) (n : Nat) (hn : n ≤ 1000) : Sl encU TT (w.alloc (.cells (madeCells #[.int .u64 0] n) 22)) (.slice (some ⟨w.heap.size, 0, none⟩) n n) (List.replicate n 0) := by
  have h := Sl.block (E := encU) (X := TT) (xs := List.replicate n (0 : Int)) (c := n) (Bk.new w 22 (madeCells #[.int .u64 0] n)) trivial ((List.replicate n (0 : Int)).map fun x => [.int .u64 x]) (by simp) (fun i hi hi' => by
    simp only [List.getElem_map]
    refine ⟨rfl, ?_⟩
    rw [List.getElem_replicate]
    exact ⟨by decide, by decide⟩) (by rw [toList_madeCells_one]; simp [List.map_replicate]) (by simp) (by omega)
  rwa [List.length_replicate] at h
def M15 : List (List (List Int)) := opnM ps (List.replicate 15 0) 1
def A15 : List (List (Int × Int)) := opnA ps (List.replicate 15 0) 1
def B15 : List (List (Int × Int)) := opnB ps (List.replicate 15 0) 1
def M16 : List (List (List Int)) := opnM ps (List.replicate 16 0) 1
def A16 : List (List (Int × Int)) := opnA ps (List.replicate 16 0) 1
def B16 : List (List (Int × Int)) := opnB ps (List.replicate 16 0) 1
theorem m16_eq : M16 = [[[0, 0], [0, 0]], [[0, 0], [0, 0]]] := by decide +kernel
theorem a16_len : A16.length = 2 := by decide +kernel
theorem b16_eq : B16 = [[(0, 0)], [(0, 0)]] := by decide +kernel
def opPv (n : Int) (M : List (List (List Int))) (A B : List (List (Int × Int))) : Pv := ⟨fun v W => ∃ a b c, v = .tuple #[a, b, c, .int .i64 n] ∧ Sl (encS (encS encU)) TT W a M ∧ Sl (encS encP) TT W b A ∧ Sl (encS encP) TT W c B, fun ⟨a, b, c, e, h1, h2, h3⟩ hg => ⟨a, b, c, e, h1.kept hg, h2.kept hg, h3.kept hg⟩⟩
set_option maxRecDepth 100000 in
set_option maxHeartbeats 8000000 in
theorem works18_any (w : World) (hT : TabsAt w) : Calls Tryz.prog 6 #[] w fun e w' => e = .returned (.bool true) ∧ w.grownBy w' none := by
  have HTB := Lib.hid hT
  have HMAY : Hid (mayP ps = true) := Lib.hid (by decide +kernel)
  clear hT
  go_enter Tryz.func6, Tryz.ntmps6
  go_wp2_with fail
  refine (small18_any w).mono ?_
  rintro e w1 ⟨rfl, hg1⟩
  obtain ⟨w2, hw2⟩ : ∃ y, y = w1.alloc (Obj.cells ps.cells 24) := ⟨_, rfl⟩
  obtain ⟨gp, hgp⟩ : ∃ y, y = w1.heap.size := ⟨_, rfl⟩
  have HBp : Hid (Bk w2 gp 24 ps.cells) := Lib.hid (by rw [hw2, hgp]; exact Bk.new _ _ _)
  have HG2 : Hid (w.grownBy w2 none) := Lib.hid (by rw [hw2]; exact hg1.trans (World.grownBy_alloc _ _ none))
  clear hg1
  go_upto_region 2 with (fail)
  first | rw [← hw2, ← hgp] | (have hw2' : w1.alloc (Obj.cells #[.int .u64 23, .int .u64 11, .int .u64 4, .int .u64 9, .int .i64 4, .int .i64 4, .int .i64 1, .int .i64 1, .int .i64 1, .int .i64 1, .int .i64 1, .int .i64 1] 24) = w2 := hw2.symm; rw [hw2', ← hgp]; clear hw2')
  clear hw2 hgp
  obtain ⟨D, hD⟩ : ∃ y, y = w2.drew := ⟨_, rfl⟩
  have HGD : Hid (w2.grownBy D none) := Lib.hid (by rw [hD]; exact grown_drewN' _ 1)
  have HLD : Hid (∀ vs W, (wkLt D SH6).C vs W → ∀ o, W.cell? ⟨gp, o, none⟩ = ps.cells[o]?) := Lib.hid (fun vs W hC => (HBp.out.grown (HGD.out.trans hC.1) (by simp)).cell)
  have HDM : Hid (∀ (b ga : Nat) (W : World) (x : Value), D.grownBy W none → Sl encU TT W x [5, 7] → TapeIs W b ga T6 → ga < W.heap.size → Calls Tryz.prog 30 #[ps.v, x, .pointer (some ⟨b, 0, none⟩)] W fun e w' => ∃ vs vc, e = .returned (.tuple #[vs, vc, .int .i64 0]) ∧ Sl (encS encP) TT w' vs SH6 ∧ W.grownBy w' (some b)) := Lib.hid (fun b ga W x hg hx hti hga => by
    obtain ⟨At, ct, hbt, _⟩ := id hti
    have hx2 := sl_apartU hx (by decide) hbt (tape_ints _ _ _ _ _)
    refine (dmodel_any ps x [5, 7] _ W (tp_ahead b ga 11 T6 ⟨by decide, by decide, by decide, by decide⟩ (by decide) ⟨by decide, by decide⟩) ps_ok HMAY.out (HTB.out.kept (HG2.out.trans (HGD.out.trans hg))) hx2 (fun b hb => hb) (by decide +kernel) 0 1 rfl ⟨hti, hga⟩ (by decide)).mono ?_
    rintro e w' ⟨vs, vc, rfl, k1, k2, k3, k4⟩
    exact ⟨vs, vc, rfl, k1, k4⟩)
  refine wp_region_late (wkLt D SH6) [4] 12 (by kernel_rfl) (by kernel_rfl) (by kernel_rfl) ⟨by rw [← hD]; exact World.grownBy.refl _ none, trivial⟩ ?_
  -- op 0 (slot 15): load
  refine LateR.mono (Qv.eq (ps.v)) [] (by kernel_rfl) (by rfl) rfl (fun vs w' hC => ?_) ?_
  · refine askl_do rfl fun K hK => ?_
    have hp := HLD.out vs w' hC
    go_simp
    exact hK _ _ rfl ⟨rfl, World.grownBy.refl _ none⟩
  -- op 1 (slot 16): buildSlice
  refine LateR.mono (wkS [5, 7] (by decide)) [] (by kernel_rfl) (by rfl) rfl (fun vs w' hC => ?_) ?_
  · refine askl_do rfl fun K hK => ?_
    go_simp
    exact hK _ _ rfl ⟨sl57 w', World.grownBy_alloc w' _ none⟩
  -- op 2 (slot 17): buildSlice
  refine LateR.mono (wkS [1, 2, 3, 4, 5, 6] (by decide)) [] (by kernel_rfl) (by rfl) rfl (fun vs w' hC => ?_) ?_
  · refine askl_do rfl fun K hK => ?_
    go_simp
    exact hK _ _ rfl ⟨sl16 w', World.grownBy_alloc w' _ none⟩
  -- op 3 (slot 18): call
  refine LateR.mono (wkT T6) [(2, 17)] (by kernel_rfl) (by rfl) rfl (fun vs w' hC => ?_) ?_
  · intro x17 h17
    have h17 : Sl encU TT w' x17 [1, 2, 3, 4, 5, 6] := h17
    refine askl_do rfl fun K hK => ?_
    go_simp
    refine (of_made x17 [1, 2, 3, 4, 5, 6] 0 w' (sl_is h17) (by decide)).mono ?_
    rintro e w3 ⟨b, ga, rfl, k1, k2, k3, k4, k5⟩
    exact hK _ _ rfl ⟨fun _ => ⟨b, ga, rfl, k1, k4, Nat.le_trans hC.1.size k2⟩, k5⟩
  -- op 4 (slot 19): call
  refine LateR.turn 0 [(0, 15), (1, 16), (3, 18)] (by kernel_rfl) rfl (fun vs w' hl hC => ?_) ?_
  · rintro _ rfl
    intro x16 h16
    have h16 : Sl encU TT w' x16 [5, 7] := h16
    intro x18 h18
    have h18 : vs = [] → ∃ b ga, x18 = .pointer (some ⟨b, 0, none⟩) ∧ TapeIs w' b ga T6 ∧ ga < w'.heap.size ∧ D.heap.size ≤ b := h18
    refine askl_do rfl fun K hK => ?_
    obtain rfl : vs = [] := List.eq_nil_of_length_eq_zero hl
    obtain ⟨b, ga, rfl, k1, k2, k3⟩ := h18 rfl
    have hbk := k1
    obtain ⟨At, ct, hbt, _⟩ := hbk
    go_simp
    refine (HDM.out b ga w' x16 hC.1 h16 k1 k2).mono ?_
    rintro e w3 ⟨vs', vc, rfl, q1, q4⟩
    exact hK _ _ rfl ⟨⟨b, _, _, hbt, tape_ints _ _ _ _ _, q4⟩, grown_up hC.1 q4 (fun r e => by injection e with e; omega), vs', vc, rfl, q1⟩
  -- op 5 (slot 14): move
  refine LateR.mono (wkX) [(4, 19)] (by kernel_rfl) (by rfl) rfl (fun vs w' hC => ?_) ?_
  · intro x19 h19
    refine askl_do rfl fun K hK => ?_
    go_simp
    exact hK _ _ rfl ⟨h19, World.grownBy.refl _ none⟩
  -- op 6 (slot 20): extract
  refine LateR.mono (wkE) [(5, 14)] (by kernel_rfl) (by rfl) rfl (fun vs w' hC => ?_) ?_
  · intro x14 h14
    have h14 : vs[0]? = some x14 := h14
    refine askl_do rfl fun K hK => ?_
    obtain ⟨vs', vc, rfl⟩ := wk_at hC h14
    go_simp
    exact hK _ _ rfl ⟨⟨vc, h14⟩, World.grownBy.refl _ none⟩
  -- op 7 (slot 21): extract
  refine LateR.mono (Qv.any) [(5, 14)] (by kernel_rfl) (by rfl) rfl (fun vs w' hC => ?_) ?_
  · intro x14 h14
    have h14 : vs[0]? = some x14 := h14
    refine askl_do rfl fun K hK => ?_
    obtain ⟨vs', vc, rfl⟩ := wk_at hC h14
    go_simp
    exact hK _ _ rfl ⟨trivial, World.grownBy.refl _ none⟩
  -- op 8 (slot 22): extract
  refine LateR.mono (Qv.eq (.int .i64 0)) [(5, 14)] (by kernel_rfl) (by rfl) rfl (fun vs w' hC => ?_) ?_
  · intro x14 h14
    have h14 : vs[0]? = some x14 := h14
    refine askl_do rfl fun K hK => ?_
    obtain ⟨vs', vc, rfl⟩ := wk_at hC h14
    go_simp
    exact hK _ _ rfl ⟨rfl, World.grownBy.refl _ none⟩
  -- op 9 (slot 2): assign
  refine LateR.mono (wkE) [(6, 20)] (by kernel_rfl) (by rfl) rfl (fun vs w' hC => ?_) ?_
  · intro x20 h20
    have h20 : ∃ vc, vs[0]? = some (.tuple #[x20, vc, .int .i64 0]) := h20
    refine askl_do rfl fun K hK => ?_
    go_simp
    exact hK _ _ rfl ⟨h20, World.grownBy.refl _ none⟩
  -- op 10 (slot 3): assign
  refine LateR.mono (Qv.any) [(7, 21)] (by kernel_rfl) (by rfl) rfl (fun vs w' hC => ?_) ?_
  · intro x21 h21
    have h21 : True := h21
    refine askl_do rfl fun K hK => ?_
    go_simp
    exact hK _ _ rfl ⟨trivial, World.grownBy.refl _ none⟩
  -- op 11 (slot 4): assign
  refine LateR.mono (Qv.eq (.int .i64 0)) [(8, 22)] (by kernel_rfl) (by rfl) rfl (fun vs w' hC => ?_) ?_
  · rintro _ rfl
    refine askl_do rfl fun K hK => ?_
    go_simp
    exact hK _ _ rfl ⟨rfl, World.grownBy.refl _ none⟩
  intro vs w5 hvl hC5
  obtain ⟨u, rfl⟩ : ∃ u, vs = [u] := List.length_eq_one_iff.1 hvl
  intro y0 k0 y1 k1 y2 k2 y3 k3 y4 k4 y5 k5 y6 k6 y7 k7 y8 k8 y9 k9 y10 k10 y11 k11
  show wpList Tryz.prog _ _ _ _ w5
  simp only [Act.put, List.setIfInBounds_toArray, List.set_cons_zero, List.set_cons_succ]
  obtain ⟨g5, va, vb, eab, hSH5⟩ := hC5
  obtain ⟨vc', hv⟩ : ∃ vc, some u = some (.tuple #[y9, vc, .int .i64 0]) := k9
  have e9 : y9 = va := by
    injection hv with hv
    rw [eab] at hv
    injection hv with hv
    injection hv with hv
    injection hv with hv _
    exact hv.symm
  have e11 : y11 = .int .i64 0 := k11
  subst e9 e11
  obtain ⟨As, cs, es, hle, _⟩ := hSH5.form
  have hl4 : SH6.length = 4 := sh6_len
  rw [hl4] at es hle
  subst es
  have HG5 : Hid (w2.grownBy w5 none) := Lib.hid (HGD.out.trans g5)
  obtain ⟨gs, os, cs', us, eS, _, _, hcs, hss⟩ := hSH5.atS (k := 0) (by rw [hl4]; decide)
  injection eS with eS1 eS2 eS3
  subst eS1 eS3
  clear eS2
  have h60 : SH6[0]'(by rw [hl4]; decide) = [(6, 5), (0, 0)] := by
    have h := sh6_0
    rw [List.getElem?_eq_getElem (by rw [hl4]; decide)] at h
    injection h
  rw [h60] at hss
  rw [Nat.add_zero] at hcs
  obtain ⟨A0, c0, e0, hle0, _⟩ := hss.form
  have hle0 : 2 ≤ c0 := hle0
  have e0 : us = .slice A0 2 c0 := e0
  subst e0
  have HSS := Lib.hid hss
  obtain ⟨wa, hwa⟩ : ∃ y, y = w5.alloc (.cells #[.int .u64 6, .int .u64 5, .int .u64 0, .int .u64 0] 58) := ⟨_, rfl⟩
  have HGa : Hid (w5.grownBy wa none) := Lib.hid (by rw [hwa]; exact World.grownBy_alloc _ _ none)
  have HSa : Hid (Sl encP TT wa (.slice (some ⟨w5.heap.size, 0, none⟩) 2 2) [(6, 5), (0, 0)]) := Lib.hid (by
    rw [hwa]
    exact Sl.build [[.int .u64 6, .int .u64 5], [.int .u64 0, .int .u64 0]] rfl ⟨⟨rfl, by decide, by decide⟩, ⟨rfl, by decide, by decide⟩, trivial⟩ rfl (by decide))
  clear hSH5 hss g5 eab hv k0 k1 k2 k3 k4 k5 k6 k7 k8 k10 HLD HDM hl4 h60 hD
  go_wp2_with fail
  rw [← hwa]
  refine (same_eq _ _ _ _ _ wa (HSS.out.kept HGa.out) HSa.out).mono ?_
  rintro e w6 ⟨rfl, hgq⟩
  have hg : wa.grownBy w6 none := by obtain ⟨nq, rfl⟩ := hgq; exact grown_drewN' _ nq
  clear hgq
  have HG6 : Hid (w5.grownBy w6 none) := Lib.hid (HGa.out.trans hg)
  have hcs6 : w6.cell? ⟨gs, os, none⟩ = some (.slice A0 2 c0) := cell_kept hcs HG6.out (by simp)
  clear hg hwa
  go_wp2_with fail
  refine (dpairs_any _ _ _ w6 (HSS.out.kept HG6.out) (by decide)).mono ?_
  rintro e w7 ⟨v44, rfl, h44, hg⟩
  have HG7 : Hid (w5.grownBy w7 none) := Lib.hid (HG6.out.trans hg)
  obtain ⟨A44, n44, c44, rfl⟩ := h44.shape
  obtain ⟨wb, hwb⟩ : ∃ y, y = w7.alloc (.cells #[.int .u64 6, .int .u64 5, .int .u64 0, .int .u64 0] 22) := ⟨_, rfl⟩
  have HGb : Hid (w7.grownBy wb none) := Lib.hid (by rw [hwb]; exact World.grownBy_alloc _ _ none)
  have HSb : Hid (Sl encU TT wb (.slice (some ⟨w7.heap.size, 0, none⟩) 4 4) [6, 5, 0, 0]) := Lib.hid (by
    rw [hwb]
    exact Sl.build [[.int .u64 6], [.int .u64 5], [.int .u64 0], [.int .u64 0]] rfl ⟨⟨rfl, by decide⟩, ⟨rfl, by decide⟩, ⟨rfl, by decide⟩, ⟨rfl, by decide⟩, trivial⟩ rfl (by decide))
  have HS44 : Hid (Sl encU (fun g => w6.heap.size ≤ g) wb (.slice A44 n44 c44) [6, 5, 0, 0]) := Lib.hid (h44.kept HGb.out)
  clear hg h44 hcs hcs6
  go_wp2_with fail
  rw [← hwb]
  refine (nums_eq _ _ _ _ _ wb HS44.out HSb.out).mono ?_
  rintro e w8 ⟨rfl, hgq⟩
  have hg : wb.grownBy w8 none := by obtain ⟨nq, rfl⟩ := hgq; exact grown_drewN' _ nq
  clear hgq
  have HG8 : Hid (w2.grownBy w8 none) := Lib.hid (HG5.out.trans (HG7.out.trans (HGb.out.trans hg)))
  clear hg hwb
  go_upto_region 5 with (fail)
  have HMK15 : Hid (∀ w', (Instr.makeSlice 25 (.int .i64 15) (.int .i64 15)).run Tryz.prog w' = .ok (.slice (some ⟨w'.heap.size, 0, none⟩) 15 15) (w'.alloc (.cells (madeCells #[.int .u64 0] 15) 22))) := Lib.hid (run_make_row' (P := Tryz.prog) 25 22 (.int .u64 0) 8 Tryz.underlying25 info_u64 rfl .i64 .i64 15 (by decide) (by decide))
  have HMK16 : Hid (∀ w', (Instr.makeSlice 25 (.int .i64 16) (.int .i64 16)).run Tryz.prog w' = .ok (.slice (some ⟨w'.heap.size, 0, none⟩) 16 16) (w'.alloc (.cells (madeCells #[.int .u64 0] 16) 22))) := Lib.hid (run_make_row' (P := Tryz.prog) 25 22 (.int .u64 0) 8 Tryz.underlying25 info_u64 rfl .i64 .i64 16 (by decide) (by decide))
  have HOP15 : Hid (∀ W x, Sl encU TT W x (List.replicate 15 0) → Calls Tryz.prog 20 #[ps.v, x, .int .i64 1] W (Gives4 (fun g => W.heap.size ≤ g) W M15 A15 B15 4)) := Lib.hid (fun W x hx => by
    have := open_any ps x (List.replicate 15 0) 1 TT W hx (by simp) ⟨by decide, by decide⟩
    rw [show opnE ps (List.replicate 15 (0 : Int)).length 1 = 4 by decide +kernel] at this
    exact this)
  have HOP16 : Hid (∀ W x, Sl encU TT W x (List.replicate 16 0) → Calls Tryz.prog 20 #[ps.v, x, .int .i64 1] W (Gives4 (fun g => W.heap.size ≤ g) W M16 A16 B16 0)) := Lib.hid (fun W x hx => by
    have := open_any ps x (List.replicate 16 0) 1 TT W hx (by simp) ⟨by decide, by decide⟩
    rw [show opnE ps (List.replicate 16 (0 : Int)).length 1 = 0 by decide +kernel] at this
    exact this)
  have HD8 : Hid (w8.grownBy w8.drew none) := Lib.hid (grown_drewN' _ 1)
  have HLD : Hid (∀ W, w8.drew.grownBy W none → ∀ o, W.cell? ⟨gp, o, none⟩ = ps.cells[o]?) := Lib.hid (fun W hg => (HBp.out.grown (HG8.out.trans (HD8.out.trans hg)) (by simp)).cell)
  refine wp_region_mono 12 (by kernel_rfl) (by kernel_rfl) ?_
  -- op 0 (slot 50): load
  refine MonoR.step (Pv.eq (ps.v)) [] (by kernel_rfl) (fun w' hw' => ?_) ?_
  · refine ask_do rfl fun K hK => ?_
    have hp := HLD.out w' hw'
    go_simp
    exact hK _ _ rfl rfl (World.grownBy.refl _ none)
  -- op 1 (slot 51): makeSlice
  refine MonoR.step (Pv.sl encU TT (List.replicate 15 0)) [] (by kernel_rfl) (fun w' hw' => ?_) ?_
  · refine ask_do rfl fun K hK => ?_
    have hmk := HMK15.out w'
    go_simp
    exact hK _ _ rfl (zeros_sl w' 15 (by decide)) (World.grownBy_alloc w' _ none)
  -- op 2 (slot 52): call
  refine MonoR.step (opPv 4 M15 A15 B15) [(0, 50), (1, 51)] (by kernel_rfl) (fun w' hw' => ?_) ?_
  · rintro _ rfl
    intro x51 h51
    have h51 : Sl encU TT w' x51 (List.replicate 15 0) := h51
    refine ask_do rfl fun K hK => ?_
    go_simp
    refine (HOP15.out w' x51 h51).mono ?_
    rintro e w3 ⟨vm, va, vb, rfl, q1, q2, q3, q4⟩
    exact hK _ _ rfl ⟨vm, va, vb, rfl, (Sl.plain2 q1).more fun _ _ _ => trivial, q2.more fun _ _ _ => trivial, q3.more fun _ _ _ => trivial⟩ q4
  -- op 3 (slot 49): move
  refine MonoR.step (opPv 4 M15 A15 B15) [(2, 52)] (by kernel_rfl) (fun w' hw' => ?_) ?_
  · intro x52 h52
    have h52 : ∃ a b c, x52 = .tuple #[a, b, c, .int .i64 4] ∧ Sl (encS (encS encU)) TT w' a M15 ∧ Sl (encS encP) TT w' b A15 ∧ Sl (encS encP) TT w' c B15 := h52
    obtain ⟨a52, b52, c52, e52, ka52, kb52, kc52⟩ := h52
    subst e52
    refine ask_do rfl fun K hK => ?_
    go_simp
    exact hK _ _ rfl ⟨a52, b52, c52, rfl, ka52, kb52, kc52⟩ (World.grownBy.refl _ none)
  -- op 4 (slot 53): extract
  refine MonoR.step (Pv.sl (encS (encS encU)) TT M15) [(3, 49)] (by kernel_rfl) (fun w' hw' => ?_) ?_
  · intro x49 h49
    have h49 : ∃ a b c, x49 = .tuple #[a, b, c, .int .i64 4] ∧ Sl (encS (encS encU)) TT w' a M15 ∧ Sl (encS encP) TT w' b A15 ∧ Sl (encS encP) TT w' c B15 := h49
    obtain ⟨a49, b49, c49, e49, ka49, kb49, kc49⟩ := h49
    subst e49
    refine ask_do rfl fun K hK => ?_
    go_simp
    exact hK _ _ rfl ka49 (World.grownBy.refl _ none)
  -- op 5 (slot 54): extract
  refine MonoR.step (Pv.sl (encS encP) TT A15) [(3, 49)] (by kernel_rfl) (fun w' hw' => ?_) ?_
  · intro x49 h49
    have h49 : ∃ a b c, x49 = .tuple #[a, b, c, .int .i64 4] ∧ Sl (encS (encS encU)) TT w' a M15 ∧ Sl (encS encP) TT w' b A15 ∧ Sl (encS encP) TT w' c B15 := h49
    obtain ⟨a49, b49, c49, e49, ka49, kb49, kc49⟩ := h49
    subst e49
    refine ask_do rfl fun K hK => ?_
    go_simp
    exact hK _ _ rfl kb49 (World.grownBy.refl _ none)
  -- op 6 (slot 55): extract
  refine MonoR.step (Pv.sl (encS encP) TT B15) [(3, 49)] (by kernel_rfl) (fun w' hw' => ?_) ?_
  · intro x49 h49
    have h49 : ∃ a b c, x49 = .tuple #[a, b, c, .int .i64 4] ∧ Sl (encS (encS encU)) TT w' a M15 ∧ Sl (encS encP) TT w' b A15 ∧ Sl (encS encP) TT w' c B15 := h49
    obtain ⟨a49, b49, c49, e49, ka49, kb49, kc49⟩ := h49
    subst e49
    refine ask_do rfl fun K hK => ?_
    go_simp
    exact hK _ _ rfl kc49 (World.grownBy.refl _ none)
  -- op 7 (slot 56): extract
  refine MonoR.step (Pv.eq (.int .i64 4)) [(3, 49)] (by kernel_rfl) (fun w' hw' => ?_) ?_
  · intro x49 h49
    have h49 : ∃ a b c, x49 = .tuple #[a, b, c, .int .i64 4] ∧ Sl (encS (encS encU)) TT w' a M15 ∧ Sl (encS encP) TT w' b A15 ∧ Sl (encS encP) TT w' c B15 := h49
    obtain ⟨a49, b49, c49, e49, ka49, kb49, kc49⟩ := h49
    subst e49
    refine ask_do rfl fun K hK => ?_
    go_simp
    exact hK _ _ rfl rfl (World.grownBy.refl _ none)
  -- op 8 (slot 5): assign
  refine MonoR.step (Pv.sl (encS (encS encU)) TT M15) [(4, 53)] (by kernel_rfl) (fun w' hw' => ?_) ?_
  · intro x53 h53
    have h53 : Sl (encS (encS encU)) TT w' x53 M15 := h53
    refine ask_do rfl fun K hK => ?_
    go_simp
    exact hK _ _ rfl h53 (World.grownBy.refl _ none)
  -- op 9 (slot 6): assign
  refine MonoR.step (Pv.sl (encS encP) TT A15) [(5, 54)] (by kernel_rfl) (fun w' hw' => ?_) ?_
  · intro x54 h54
    have h54 : Sl (encS encP) TT w' x54 A15 := h54
    refine ask_do rfl fun K hK => ?_
    go_simp
    exact hK _ _ rfl h54 (World.grownBy.refl _ none)
  -- op 10 (slot 7): assign
  refine MonoR.step (Pv.sl (encS encP) TT B15) [(6, 55)] (by kernel_rfl) (fun w' hw' => ?_) ?_
  · intro x55 h55
    have h55 : Sl (encS encP) TT w' x55 B15 := h55
    refine ask_do rfl fun K hK => ?_
    go_simp
    exact hK _ _ rfl h55 (World.grownBy.refl _ none)
  -- op 11 (slot 8): assign
  refine MonoR.step (Pv.eq (.int .i64 4)) [(7, 56)] (by kernel_rfl) (fun w' hw' => ?_) ?_
  · rintro _ rfl
    refine ask_do rfl fun K hK => ?_
    go_simp
    exact hK _ _ rfl rfl (World.grownBy.refl _ none)
  
  intro w9 hw9
  intro y0 k0 y1 k1 y2 k2 y3 k3 y4 k4 y5 k5 y6 k6 y7 k7 y8 k8 y9 k9 y10 k10 y11 k11
  refine wpList_nil ?_
  simp only [Act.put, List.setIfInBounds_toArray, List.set_cons_zero, List.set_cons_succ]
  have e11 : y11 = .int .i64 4 := k11
  subst e11
  have HG9 : Hid (w2.grownBy w9 none) := Lib.hid (HG8.out.trans (HD8.out.trans hw9))
  clear hw9 HLD HD8 k0 k1 k2 k3 k4 k5 k6 k7 k8 k9 k10
  go_upto_region 6 with (fail)
  have HD9 : Hid (w9.grownBy w9.drew none) := Lib.hid (grown_drewN' _ 1)
  have HLD : Hid (∀ W, w9.drew.grownBy W none → ∀ o, W.cell? ⟨gp, o, none⟩ = ps.cells[o]?) := Lib.hid (fun W hg => (HBp.out.grown (HG9.out.trans (HD9.out.trans hg)) (by simp)).cell)
  refine wp_region_mono 12 (by kernel_rfl) (by kernel_rfl) ?_
  -- op 0 (slot 58): load
  refine MonoR.step (Pv.eq (ps.v)) [] (by kernel_rfl) (fun w' hw' => ?_) ?_
  · refine ask_do rfl fun K hK => ?_
    have hp := HLD.out w' hw'
    go_simp
    exact hK _ _ rfl rfl (World.grownBy.refl _ none)
  -- op 1 (slot 59): makeSlice
  refine MonoR.step (Pv.sl encU TT (List.replicate 16 0)) [] (by kernel_rfl) (fun w' hw' => ?_) ?_
  · refine ask_do rfl fun K hK => ?_
    have hmk := HMK16.out w'
    go_simp
    exact hK _ _ rfl (zeros_sl w' 16 (by decide)) (World.grownBy_alloc w' _ none)
  -- op 2 (slot 60): call
  refine MonoR.step (opPv 0 M16 A16 B16) [(0, 58), (1, 59)] (by kernel_rfl) (fun w' hw' => ?_) ?_
  · rintro _ rfl
    intro x59 h59
    have h59 : Sl encU TT w' x59 (List.replicate 16 0) := h59
    refine ask_do rfl fun K hK => ?_
    go_simp
    refine (HOP16.out w' x59 h59).mono ?_
    rintro e w3 ⟨vm, va, vb, rfl, q1, q2, q3, q4⟩
    exact hK _ _ rfl ⟨vm, va, vb, rfl, (Sl.plain2 q1).more fun _ _ _ => trivial, q2.more fun _ _ _ => trivial, q3.more fun _ _ _ => trivial⟩ q4
  -- op 3 (slot 57): move
  refine MonoR.step (opPv 0 M16 A16 B16) [(2, 60)] (by kernel_rfl) (fun w' hw' => ?_) ?_
  · intro x60 h60
    have h60 : ∃ a b c, x60 = .tuple #[a, b, c, .int .i64 0] ∧ Sl (encS (encS encU)) TT w' a M16 ∧ Sl (encS encP) TT w' b A16 ∧ Sl (encS encP) TT w' c B16 := h60
    obtain ⟨a60, b60, c60, e60, ka60, kb60, kc60⟩ := h60
    subst e60
    refine ask_do rfl fun K hK => ?_
    go_simp
    exact hK _ _ rfl ⟨a60, b60, c60, rfl, ka60, kb60, kc60⟩ (World.grownBy.refl _ none)
  -- op 4 (slot 61): extract
  refine MonoR.step (Pv.sl (encS (encS encU)) TT M16) [(3, 57)] (by kernel_rfl) (fun w' hw' => ?_) ?_
  · intro x57 h57
    have h57 : ∃ a b c, x57 = .tuple #[a, b, c, .int .i64 0] ∧ Sl (encS (encS encU)) TT w' a M16 ∧ Sl (encS encP) TT w' b A16 ∧ Sl (encS encP) TT w' c B16 := h57
    obtain ⟨a57, b57, c57, e57, ka57, kb57, kc57⟩ := h57
    subst e57
    refine ask_do rfl fun K hK => ?_
    go_simp
    exact hK _ _ rfl ka57 (World.grownBy.refl _ none)
  -- op 5 (slot 62): extract
  refine MonoR.step (Pv.sl (encS encP) TT A16) [(3, 57)] (by kernel_rfl) (fun w' hw' => ?_) ?_
  · intro x57 h57
    have h57 : ∃ a b c, x57 = .tuple #[a, b, c, .int .i64 0] ∧ Sl (encS (encS encU)) TT w' a M16 ∧ Sl (encS encP) TT w' b A16 ∧ Sl (encS encP) TT w' c B16 := h57
    obtain ⟨a57, b57, c57, e57, ka57, kb57, kc57⟩ := h57
    subst e57
    refine ask_do rfl fun K hK => ?_
    go_simp
    exact hK _ _ rfl kb57 (World.grownBy.refl _ none)
  -- op 6 (slot 63): extract
  refine MonoR.step (Pv.sl (encS encP) TT B16) [(3, 57)] (by kernel_rfl) (fun w' hw' => ?_) ?_
  · intro x57 h57
    have h57 : ∃ a b c, x57 = .tuple #[a, b, c, .int .i64 0] ∧ Sl (encS (encS encU)) TT w' a M16 ∧ Sl (encS encP) TT w' b A16 ∧ Sl (encS encP) TT w' c B16 := h57
    obtain ⟨a57, b57, c57, e57, ka57, kb57, kc57⟩ := h57
    subst e57
    refine ask_do rfl fun K hK => ?_
    go_simp
    exact hK _ _ rfl kc57 (World.grownBy.refl _ none)
  -- op 7 (slot 64): extract
  refine MonoR.step (Pv.eq (.int .i64 0)) [(3, 57)] (by kernel_rfl) (fun w' hw' => ?_) ?_
  · intro x57 h57
    have h57 : ∃ a b c, x57 = .tuple #[a, b, c, .int .i64 0] ∧ Sl (encS (encS encU)) TT w' a M16 ∧ Sl (encS encP) TT w' b A16 ∧ Sl (encS encP) TT w' c B16 := h57
    obtain ⟨a57, b57, c57, e57, ka57, kb57, kc57⟩ := h57
    subst e57
    refine ask_do rfl fun K hK => ?_
    go_simp
    exact hK _ _ rfl rfl (World.grownBy.refl _ none)
  -- op 8 (slot 9): assign
  refine MonoR.step (Pv.sl (encS (encS encU)) TT M16) [(4, 61)] (by kernel_rfl) (fun w' hw' => ?_) ?_
  · intro x61 h61
    have h61 : Sl (encS (encS encU)) TT w' x61 M16 := h61
    refine ask_do rfl fun K hK => ?_
    go_simp
    exact hK _ _ rfl h61 (World.grownBy.refl _ none)
  -- op 9 (slot 10): assign
  refine MonoR.step (Pv.sl (encS encP) TT A16) [(5, 62)] (by kernel_rfl) (fun w' hw' => ?_) ?_
  · intro x62 h62
    have h62 : Sl (encS encP) TT w' x62 A16 := h62
    refine ask_do rfl fun K hK => ?_
    go_simp
    exact hK _ _ rfl h62 (World.grownBy.refl _ none)
  -- op 10 (slot 11): assign
  refine MonoR.step (Pv.sl (encS encP) TT B16) [(6, 63)] (by kernel_rfl) (fun w' hw' => ?_) ?_
  · intro x63 h63
    have h63 : Sl (encS encP) TT w' x63 B16 := h63
    refine ask_do rfl fun K hK => ?_
    go_simp
    exact hK _ _ rfl h63 (World.grownBy.refl _ none)
  -- op 11 (slot 12): assign
  refine MonoR.step (Pv.eq (.int .i64 0)) [(7, 64)] (by kernel_rfl) (fun w' hw' => ?_) ?_
  · rintro _ rfl
    refine ask_do rfl fun K hK => ?_
    go_simp
    exact hK _ _ rfl rfl (World.grownBy.refl _ none)
  
  intro w10 hw10
  intro z0 k0 z1 k1 z2 k2 z3 k3 z4 k4 z5 k5 z6 k6 z7 k7 z8 k8 z9 k9 z10 k10 z11 k11
  refine wpList_nil ?_
  simp only [Act.put, List.setIfInBounds_toArray, List.set_cons_zero, List.set_cons_succ]
  have e11 : z11 = .int .i64 0 := k11
  subst e11
  have HG10 : Hid (w2.grownBy w10 none) := Lib.hid (HG9.out.trans (HD9.out.trans hw10))
  have h8 : Sl (encS (encS encU)) TT w10 z8 [[[0, 0], [0, 0]], [[0, 0], [0, 0]]] := by rw [← m16_eq]; exact k8
  have h9 : Sl (encS encP) TT w10 z9 A16 := k9
  have h10 : Sl (encS encP) TT w10 z10 [[(0, 0)], [(0, 0)]] := by rw [← b16_eq]; exact k10
  obtain ⟨A9, c9, e9, hle9, _⟩ := h9.form
  rw [a16_len] at e9 hle9
  obtain ⟨gm, om, cm, um, em, _, _, hcm, hm⟩ := h8.atS (k := 1) (by decide)
  have em : z8 = .slice (some ⟨gm, om, none⟩) 2 cm := em
  have hm : Sl (encS encU) TT w10 um [[0, 0], [0, 0]] := hm
  obtain ⟨gn, on, cn, un, en, _, _, hcn, hn⟩ := hm.atS (k := 1) (by decide)
  have en : um = .slice (some ⟨gn, on, none⟩) 2 cn := en
  have hn : Sl encU TT w10 un [0, 0] := hn
  obtain ⟨An, cn2, en2, _, _⟩ := hn.form
  have en2 : un = .slice An 2 cn2 := en2
  obtain ⟨gb, ob, cb, ub, eb, _, _, hcb, hb⟩ := h10.atS (k := 1) (by decide)
  have eb : z10 = .slice (some ⟨gb, ob, none⟩) 2 cb := eb
  have hb : Sl encP TT w10 ub [(0, 0)] := hb
  obtain ⟨Ab, cb2, eb2, _, _⟩ := hb.form
  have eb2 : ub = .slice Ab 1 cb2 := eb2
  subst e9 em en en2 eb eb2
  clear hw10 HLD HD9 k0 k1 k2 k3 k4 k5 k6 k7 k8 k9 k10 h8 h9 h10 hm hn hb
  go_wp2_with fail
  go_ret
  exact ⟨rfl, HG2.out.trans HG10.out⟩
end Go.Proofs.YtnjkelojkoeihaaGreatDoor

namespace Go.Proofs.YtnjkelojkoeihaaGreatDoor
open Go Go.RowKit

set_option maxHeartbeats 800000 in
theorem nums_any (v1 v2 : Value) (xs ys : List Int) (X Y : Nat → Prop) (w : World) (h1 : Sl encU X w v1 xs) (h2 : Sl encU Y w v2 ys) :
    Calls Tryz.prog 18 #[v1, v2] w fun e w' => e = .returned (.bool (decide (xs = ys))) ∧ w.grownBy w' none := by
  have H1 := Lib.hid h1
  have H2 := Lib.hid h2
  obtain ⟨A1, c1, rfl, hc1, hc2⟩ := h1.form
  obtain ⟨A2, c2, rfl, hc3, hc4⟩ := h2.form
  clear h1 h2
  by_cases hl : xs.length = ys.length
  · have HLN := Lib.hid hl
    have HST : Hid ((∃ n, w = w.drewN n) ∧ xs.take 0 = ys.take 0) := Lib.hid ⟨⟨0, rfl⟩, rfl⟩
    rw [hl] at H1 hc1 ⊢
    clear hl
    go_enter Tryz.func18, Tryz.ntmps18
    go_wp2_with fail
    go_loopg [5] ys.length (fun g s5 wx => ∃ j : Nat, j + g = ys.length ∧ s5 = .int .i64 j ∧ Hid ((∃ n, wx = w.drewN n) ∧ xs.take j = ys.take j))
    case atStart => exact ⟨0, by omega, rfl, HST⟩
    case round =>
      obtain ⟨j, hj, rfl, HX⟩ := hrel
      obtain ⟨⟨n0, rfl⟩, htk⟩ := HX.out
      cases gk with
      | zero =>
        obtain rfl : j = ys.length := by omega
        have HE : Hid (decide (xs = ys) = true) := Lib.hid (by
          rw [List.take_length, ← HLN.out, List.take_length] at htk
          simpa using htk)
        clear HX HST htk
        go_wp2
        go_ret
        exact ⟨ret_bool HE.out.symm, grown_drewN' w _⟩
      | succ m =>
        have hjn : (j : Int) < (ys.length : Int) := by omega
        have hj0 : (0 : Int) ≤ (j : Int) := by omega
        have hjN : j < ys.length := by omega
        have hjX : j < xs.length := by rw [HLN.out]; exact hjN
        obtain ⟨g1, o1, c1', e1, _, _, a1, u1⟩ := (HLN.out ▸ H1.out : Sl encU X w (.slice A1 xs.length c1) xs).atU hjX
        injection e1 with e11 e12 e13
        subst e11 e13
        obtain ⟨g2, o2, c2', e2, _, _, a2, _⟩ := H2.out.atU hjN
        injection e2 with e21 e22 e23
        subst e21 e23
        have HSX := Lib.hid (List.take_succ_eq_append_getElem hjX)
        have HSY := Lib.hid (List.take_succ_eq_append_getElem hjN)
        have HTK := Lib.hid htk
        by_cases hxy : xs[j] = ys[j]
        · have HNX : Hid (xs.take (j + 1) = ys.take (j + 1)) := Lib.hid (by rw [HSX.out, HSY.out, hxy, HTK.out])
          rw [hxy] at a1
          clear HX HST e12 e22 htk hxy HSX HSY
          generalize ys[j] = y at *
          go_wp2_with fail
          go_quiet (fail)
          go_wp2_with fail
          go_roundg m
          case measure => omega
          case rel => exact ⟨j + 1, by omega, by go_num, Lib.hid ⟨⟨_, rfl⟩, HNX.out⟩⟩
        · have HE : Hid (decide (xs = ys) = false) := Lib.hid (by simp only [decide_eq_false_iff_not]; intro e; apply hxy; subst e; rfl)
          have hd : (xs[j] != ys[j]) = true := by simpa using hxy
          clear HX HST e12 e22 htk hxy HSX HSY
          generalize ys[j] = y at *
          generalize xs[j] = x at *
          go_wp2_with fail
          go_quiet (fail)
          go_wp2
          go_ret
          exact ⟨ret_bool HE.out.symm, (grown_drewN' w _).trans (grown_drewN' _ _)⟩
  · have hd : ((xs.length : Int) != (ys.length : Int)) = true := by simp; omega
    have HE : Hid (decide (xs = ys) = false) := Lib.hid (by simp only [decide_eq_false_iff_not]; intro e; exact hl (by rw [e]))
    clear hl
    go_enter Tryz.func18, Tryz.ntmps18
    go_wp2
    go_ret
    exact ⟨ret_bool HE.out.symm, World.grownBy.refl w none⟩
end Go.Proofs.YtnjkelojkoeihaaGreatDoor

namespace Go.Proofs.YtnjkelojkoeihaaGreatDoor
open Go.ChangeShapes Go.WideShapes Go.RowKit

set_option maxRecDepth 100000 in
theorem open_params {H : Type} {enc : TypeId × Value → H} {w : World} {base : Nat} {spare : Nat → Bool} {held : Bool} {r : Reach} {b0 : Nat} {v : Value} {d : DataW H} {pl : List MemPlace}
    (hv : Value.okWide Tryz.prog w r b0 24 v) (h : DataW.Trod enc Tryz.prog w base spare held 24 v d pl) : ∃ p : Par, v = p.v ∧ p.ok := by
  obtain ⟨cs, rfl, hsz⟩ := okWide_struct Tryz.underlying24 hv
  obtain ⟨l⟩ := cs
  have hc : Tryz.prog.cellsOf 24 = 12 := by kernel_rfl
  have cu : Tryz.prog.cellsOf 22 = 1 := by kernel_rfl
  have ci : Tryz.prog.cellsOf 3 = 1 := by kernel_rfl
  have cj : Tryz.prog.cellsOf 2 = 1 := by kernel_rfl
  match l, hsz.trans hc with
  | [c0, c1, c2, c3, c4, c5, c6, c7, c8, c9, c10, c11], _ =>
    obtain ⟨fuel, hf⟩ := h
    obtain ⟨xs, n, _, _, _, hlen, hg⟩ := DataW.trod_struct Tryz.underlying24 hf
    match xs, hlen with
    | [y0, y1, y2, y3, y4, y5, y6, y7, y8, y9, y10, y11], _ =>
      have g0 := hg 0 _ rfl
      have g1 := hg 1 _ rfl
      have g2 := hg 2 _ rfl
      have g3 := hg 3 _ rfl
      have g4 := hg 4 _ rfl
      have g5 := hg 5 _ rfl
      have g6 := hg 6 _ rfl
      have g7 := hg 7 _ rfl
      have g8 := hg 8 _ rfl
      have g9 := hg 9 _ rfl
      have g10 := hg 10 _ rfl
      have g11 := hg 11 _ rfl
      simp [Value.cells, cu, ci, cj] at g0 g1 g2 g3 g4 g5 g6 g7 g8 g9 g10 g11
      obtain ⟨a0, e0, _, w0⟩ := DataW.trod_int Tryz.underlying22 g0
      simp at e0
      obtain ⟨a1, e1, _, w1⟩ := DataW.trod_int Tryz.underlying22 g1
      simp at e1
      obtain ⟨a2, e2, _, w2⟩ := DataW.trod_int Tryz.underlying22 g2
      simp at e2
      obtain ⟨a3, e3, _, w3⟩ := DataW.trod_int Tryz.underlying22 g3
      simp at e3
      obtain ⟨a4, e4, _, w4⟩ := DataW.trod_int Tryz.underlying3 g4
      simp at e4
      obtain ⟨a5, e5, _, w5⟩ := DataW.trod_int Tryz.underlying3 g5
      simp at e5
      obtain ⟨a6, e6, _, w6⟩ := DataW.trod_int Tryz.underlying3 g6
      simp at e6
      obtain ⟨a7, e7, _, w7⟩ := DataW.trod_int Tryz.underlying3 g7
      simp at e7
      obtain ⟨a8, e8, _, w8⟩ := DataW.trod_int Tryz.underlying3 g8
      simp at e8
      obtain ⟨a9, e9, _, w9⟩ := DataW.trod_int Tryz.underlying3 g9
      simp at e9
      obtain ⟨a10, e10, _, w10⟩ := DataW.trod_int Tryz.underlying2 g10
      simp at e10
      obtain ⟨a11, e11, _, w11⟩ := DataW.trod_int Tryz.underlying2 g11
      simp at e11
      subst e0 e1 e2 e3 e4 e5 e6 e7 e8 e9 e10 e11
      exact ⟨⟨a0, a1, a2, a3, a4, a5, a6, a7, a8, a9, a10, a11⟩, rfl, ⟨u64_wf w0, u64_wf w1, u64_wf w2, u64_wf w3, i64_wf w4, i64_wf w5, i64_wf w6, i64_wf w7, i64_wf w8, i64_wf w9, i64_wf w10, i64_wf w11⟩⟩
set_option maxRecDepth 100000 in
theorem open_pair {H : Type} {enc : TypeId × Value → H} {w : World} {base : Nat} {spare : Nat → Bool} {held : Bool} {r : Reach} {b0 : Nat} {v : Value} {d : DataW H} {pl : List MemPlace}
    (hv : Value.okWide Tryz.prog w r b0 58 v) (h : DataW.Trod enc Tryz.prog w base spare held 58 v d pl) : ∃ x : Int × Int, v = .agg #[.int .u64 x.1, .int .u64 x.2] ∧ U64 x.1 ∧ U64 x.2 := by
  obtain ⟨cs, rfl, hsz⟩ := okWide_struct Tryz.underlying58 hv
  obtain ⟨l⟩ := cs
  have hc : Tryz.prog.cellsOf 58 = 2 := by kernel_rfl
  have cu : Tryz.prog.cellsOf 22 = 1 := by kernel_rfl
  match l, hsz.trans hc with
  | [c0, c1], _ =>
    obtain ⟨fuel, hf⟩ := h
    obtain ⟨xs, n, _, _, _, hlen, hg⟩ := DataW.trod_struct Tryz.underlying58 hf
    match xs, hlen with
    | [y0, y1], _ =>
      have g0 := hg 0 _ rfl
      have g1 := hg 1 _ rfl
      simp [Value.cells, cu] at g0 g1
      obtain ⟨a0, e0, _, w0⟩ := DataW.trod_int Tryz.underlying22 g0
      obtain ⟨a1, e1, _, w1⟩ := DataW.trod_int Tryz.underlying22 g1
      simp at e0 e1
      subst e0 e1
      exact ⟨(a0, a1), rfl, u64_wf w0, u64_wf w1⟩
theorem cells_u64 : Tryz.prog.cellsOf 22 = 1 := by kernel_rfl
theorem reads_nums : Reads (encS encU) 25 := reads_sl Tryz.underlying25 (reads_u64 Tryz.underlying22) cells_u64
theorem cells_pair : Tryz.prog.cellsOf 58 = 2 := by kernel_rfl
theorem reads_pairs : Reads (encS encP) 33 := reads_sl Tryz.underlying33 (reads_pair Tryz.underlying58 ⟨rfl, rfl⟩ ⟨rfl, rfl⟩ Tryz.underlying22 cells_pair cells_u64) cells_pair
theorem cells_nums : Tryz.prog.cellsOf 25 = 1 := by kernel_rfl
theorem reads_rows : Reads (encS (encS encU)) 34 := reads_sl Tryz.underlying34 reads_nums cells_nums
theorem cells_rows : Tryz.prog.cellsOf 34 = 1 := by kernel_rfl
theorem reads_mat : Reads (encS (encS (encS encU))) 29 := reads_sl Tryz.underlying29 reads_rows cells_rows
theorem cells_pairs : Tryz.prog.cellsOf 33 = 1 := by kernel_rfl
theorem reads_prows : Reads (encS (encS encP)) 39 := reads_sl Tryz.underlying39 reads_pairs cells_pairs
theorem cells_int : Tryz.prog.cellsOf 3 = 1 := by kernel_rfl
theorem reads_ints : Reads (encS encI) 44 := reads_sl Tryz.underlying44 (reads_i64 Tryz.underlying3) cells_int
end Go.Proofs.YtnjkelojkoeihaaGreatDoor

namespace Go.Proofs.YtnjkelojkoeihaaGreatDoor
open Go.RowKit
theorem grown_drewN (w : World) : ∀ n, Grown w (w.drewN n)
  | 0 => Grown.refl w
  | n + 1 => (grown_drewN w n).drew
def tabL : List Int := [0, 1, 56, 2, 57, 49, 28, 3, 61, 58, 42, 50, 38, 29, 17, 4, 62, 47, 59, 36, 45, 43, 51, 22, 53, 39, 33, 30, 24, 18, 12, 5, 63, 55, 48, 27, 60, 41, 37, 16, 46, 35, 44, 21, 52, 32, 23, 11, 54, 26, 40, 15, 34, 20, 31, 10, 25, 14, 19, 9, 13, 8, 7, 6]
theorem tabZ' : ∀ j, j < 64 → tabL.getD j 0 = ((Lib.deBruijn64tab.getD j 0 : Nat) : Int) := by decide
theorem tabZ (j : Nat) (hj : j < Lib.deBruijn64tab.length) : tabL.getD j 0 = ((Lib.deBruijn64tab.getD j 0 : Nat) : Int) := tabZ' j hj
/-- What an initialiser lays into a variable's block. -/
def layCells (cs : Array Value) : Obj → Obj
  | .cells _ t f => .cells cs t f
  | o => o
end Go.Proofs.YtnjkelojkoeihaaGreatDoor

namespace Go.Proofs.YtnjkelojkoeihaaGreatDoor
open Go Go.RowKit

set_option maxHeartbeats 1000000 in
theorem flatP_any (v : Value) (ls : List (List (Int × Int))) (X : Nat → Prop) (w : World) (h : Sl (encS encP) X w v ls) (hb : ls.length ≤ 1000) (hb2 : ∀ x ∈ ls, x.length ≤ 1000) :
    Calls Tryz.prog 77 #[v] w (Gives encP (fun g => w.heap.size ≤ g) w ls.flatten) := by
  have H := Lib.hid h
  have HB2 := Lib.hid hb2
  have HB := Lib.hid hb
  obtain ⟨A, c, rfl, hc1, hc2⟩ := h.form
  have HLN : Hid (∀ j, (ls.take j).flatten.length ≤ j * 1000) := Lib.hid (fun j => by
    induction j with
    | zero => simp
    | succ j ih =>
      rcases Nat.lt_or_ge j ls.length with h | h
      · rw [List.take_succ_eq_append_getElem h, List.flatten_append, List.length_append]
        have h1 := hb2 _ (List.getElem_mem h)
        have h2 : [ls[j]].flatten.length = ls[j].length := by simp
        rw [h2, Nat.add_mul]
        exact Nat.add_le_add ih (by rw [Nat.one_mul]; exact h1)
      · rw [List.take_of_length_le (show ls.length ≤ j + 1 from Nat.le_succ_of_le h)]
        rw [List.take_of_length_le h] at ih
        exact Nat.le_trans ih (Nat.mul_le_mul_right _ (Nat.le_succ j)))
  clear h hb hb2
  go_enter Tryz.func77, Tryz.ntmps77
  go_wp2_with fail
  go_loopg [3, 8] ls.length (fun g s3 s8 wx => ∃ j : Nat, j + g = ls.length ∧ s8 = .int .i64 j ∧ Hid (Acc encP w.heap.size 58 (fun g => w.heap.size ≤ g) wx s3 (ls.take j).flatten ∧ w.grownBy wx none))
  case atStart => exact ⟨0, by omega, rfl, Lib.hid ⟨Acc.nil _ _ _ _ _, World.grownBy.refl _ none⟩⟩
  case round =>
    obtain ⟨j, hj, rfl, HX⟩ := hrel
    cases gk with
    | zero =>
      obtain rfl : j = ls.length := by omega
      have HR : Hid (Sl encP (fun g => w.heap.size ≤ g) wr u3 ls.flatten ∧ w.grownBy wr none) := Lib.hid ⟨by have := HX.out.1.sl; rwa [List.take_length] at this, HX.out.2⟩
      clear HX
      go_wp2
      go_ret
      exact ⟨_, rfl, HR.out.1, HR.out.2⟩
    | succ m =>
      have hjn : (j : Int) < (ls.length : Int) := by omega
      have hjN : j < ls.length := by omega
      obtain ⟨hacc, hg⟩ := HX.out
      obtain ⟨g, o, c', u, e, _, _, hcu, hu⟩ := (H.out.kept hg).atS hjN
      injection e with e1 e2 e3
      subst e1 e3
      have HSN : Hid ((ls.take (j + 1)).flatten = (ls.take j).flatten ++ ls[j]) := Lib.hid (by rw [List.take_succ_eq_append_getElem hjN, List.flatten_append]; simp)
      have HAC := Lib.hid hacc
      have HG := Lib.hid hg
      obtain ⟨A1, c1, e1, _, _⟩ := hu.form
      have HLB : Hid (((ls.take j).flatten.length + ls[j].length) * 16 ≤ 140737488355328) := Lib.hid (by have h1 := HLN.out j; have h2 := HB.out; have h3 := HB2.out _ (List.getElem_mem hjN); omega)
      have HSZ : Hid (w.heap.size ≤ wr.heap.size) := Lib.hid hg.size
      have HU := Lib.hid hu
      clear hacc hg HX hu e2
      obtain ⟨y, hy⟩ : ∃ y, y = ls[j] := ⟨_, rfl⟩
      rw [← hy] at e1 HSN HLB HU
      clear hy
      obtain ⟨ny, hny⟩ : ∃ y2, y2 = y.length := ⟨_, rfl⟩
      rw [← hny] at e1
      subst e1
      clear hny
      go_wp2_with (at_builtin; refine wpList_apps rfl (.tmp 12) (.tmp 13) rfl (E := encP) el_pair HAC.out rfl rfl HU.out (fun _ _ h => h) HLB.out HSZ.out (fun _ h => Nat.le_trans HSZ.out h) ?_)
      intro v2 w2 hacc2 hg2 hm2
      have HFIN : Hid (Acc encP w.heap.size 58 (fun g => w.heap.size ≤ g) w2 v2 (ls.take (j + 1)).flatten ∧ w.grownBy w2 none) := Lib.hid ⟨by rw [HSN.out]; exact hacc2, grown_up HG.out hg2 (fun k e => (HAC.out.lt k e).1)⟩
      clear hacc2 hg2 hm2
      go_wp2_with fail
      go_roundg m
      case measure => omega
      case rel => exact ⟨j + 1, by omega, by go_num, HFIN⟩
set_option maxHeartbeats 1000000 in
theorem flatR_any (v : Value) (ls : List (List (List Int))) (X : Nat → Prop) (w : World) (h : Sl (encS (encS encU)) X w v ls) (hb : ls.length ≤ 1000) (hb2 : ∀ x ∈ ls, x.length ≤ 1000) :
    Calls Tryz.prog 76 #[v] w (Gives (encS encU) TT w ls.flatten) := by
  have H := Lib.hid h.bounded
  have HB2 := Lib.hid hb2
  have HB := Lib.hid hb
  obtain ⟨A, c, rfl, hc1, hc2⟩ := h.form
  have HLN : Hid (∀ j, (ls.take j).flatten.length ≤ j * 1000) := Lib.hid (fun j => by
    induction j with
    | zero => simp
    | succ j ih =>
      rcases Nat.lt_or_ge j ls.length with h | h
      · rw [List.take_succ_eq_append_getElem h, List.flatten_append, List.length_append]
        have h1 := hb2 _ (List.getElem_mem h)
        have h2 : [ls[j]].flatten.length = ls[j].length := by simp
        rw [h2, Nat.add_mul]
        exact Nat.add_le_add ih (by rw [Nat.one_mul]; exact h1)
      · rw [List.take_of_length_le (show ls.length ≤ j + 1 from Nat.le_succ_of_le h)]
        rw [List.take_of_length_le h] at ih
        exact Nat.le_trans ih (Nat.mul_le_mul_right _ (Nat.le_succ j)))
  clear h hb hb2
  go_enter Tryz.func76, Tryz.ntmps76
  go_wp2_with fail
  go_loopg [3, 8] ls.length (fun g s3 s8 wx => ∃ j : Nat, j + g = ls.length ∧ s8 = .int .i64 j ∧ Hid (Acc (encS encU) w.heap.size 25 TT wx s3 (ls.take j).flatten ∧ w.grownBy wx none))
  case atStart => exact ⟨0, by omega, rfl, Lib.hid ⟨Acc.nil _ _ _ _ _, World.grownBy.refl _ none⟩⟩
  case round =>
    obtain ⟨j, hj, rfl, HX⟩ := hrel
    cases gk with
    | zero =>
      obtain rfl : j = ls.length := by omega
      have HR : Hid (Sl (encS encU) TT wr u3 ls.flatten ∧ w.grownBy wr none) := Lib.hid ⟨by have := HX.out.1.sl; rwa [List.take_length] at this, HX.out.2⟩
      clear HX
      go_wp2
      go_ret
      exact ⟨_, rfl, HR.out.1, HR.out.2⟩
    | succ m =>
      have hjn : (j : Int) < (ls.length : Int) := by omega
      have hjN : j < ls.length := by omega
      obtain ⟨hacc, hg⟩ := HX.out
      obtain ⟨g, o, c', u, e, _, _, hcu, hu⟩ := (H.out.kept hg).atS hjN
      injection e with e1 e2 e3
      subst e1 e3
      have HSN : Hid ((ls.take (j + 1)).flatten = (ls.take j).flatten ++ ls[j]) := Lib.hid (by rw [List.take_succ_eq_append_getElem hjN, List.flatten_append]; simp)
      have HAC := Lib.hid hacc
      have HG := Lib.hid hg
      obtain ⟨A1, c1, e1, _, _⟩ := hu.form
      have HLB : Hid (((ls.take j).flatten.length + ls[j].length) * 24 ≤ 140737488355328) := Lib.hid (by have h1 := HLN.out j; have h2 := HB.out; have h3 := HB2.out _ (List.getElem_mem hjN); omega)
      have HSZ : Hid (w.heap.size ≤ wr.heap.size) := Lib.hid hg.size
      have HU := Lib.hid hu
      have HNO : Hid (∀ cs y, (encS encU).rep (fun g => X g ∧ g < w.heap.size) wr cs y → (encS encU).rep (fun g => TT g ∧ some g ≠ u3.ownBlock) wr cs y) := Lib.hid (fun cs y h => (encS encU).more h fun g _ hg => ⟨trivial, fun e => by have := (hacc.lt g e.symm).1; have := hg.2; omega⟩)
      clear hacc hg HX hu e2
      obtain ⟨y, hy⟩ : ∃ y, y = ls[j] := ⟨_, rfl⟩
      rw [← hy] at e1 HSN HLB HU
      clear hy
      obtain ⟨ny, hny⟩ : ∃ y2, y2 = y.length := ⟨_, rfl⟩
      rw [← hny] at e1
      subst e1
      clear hny
      go_wp2_with (at_builtin; refine wpList_apps rfl (.tmp 12) (.tmp 13) rfl (E := encS encU) el_nums HAC.out rfl rfl HU.out HNO.out HLB.out HSZ.out (fun _ _ => trivial) ?_)
      intro v2 w2 hacc2 hg2 hm2
      have HFIN : Hid (Acc (encS encU) w.heap.size 25 TT w2 v2 (ls.take (j + 1)).flatten ∧ w.grownBy w2 none) := Lib.hid ⟨by rw [HSN.out]; exact hacc2, grown_up HG.out hg2 (fun k e => (HAC.out.lt k e).1)⟩
      clear hacc2 hg2 hm2
      go_wp2_with fail
      go_roundg m
      case measure => omega
      case rel => exact ⟨j + 1, by omega, by go_num, HFIN⟩
/-- The numbers of pairs; of a matrix and two lists. -/
def prsN (l : List (Int × Int)) : List Int := (l.map fun x => [x.1, x.2]).flatten
def packI (M : List (List (List Int))) (a b : List (List (Int × Int))) : List Int := [M.flatten.flatten, prsN a.flatten, prsN b.flatten].flatten
theorem dflat_any (v : Value) (ls : List (List Int)) (X : Nat → Prop) (w : World) (h : Sl (encS encU) X w v ls) (hb : ls.length ≤ 1000) (hb2 : ∀ x ∈ ls, x.length ≤ 1000) :
    Calls Tryz.prog 27 #[v] w (Gives encU (fun g => w.heap.size ≤ g) w ls.flatten) := by
  have HF := Lib.hid (flatU_any v ls X w h hb hb2)
  obtain ⟨A, c, rfl, _, _⟩ := h.form
  clear h hb hb2
  go_enter Tryz.func27, Tryz.ntmps27
  go_wp2_with fail
  refine HF.out.mono ?_
  rintro e w1 ⟨v1, rfl, hs1, hg1⟩
  have HR : Hid (Sl encU (fun g => w.heap.size ≤ g) w1 v1 ls.flatten ∧ w.grownBy w1 none) := Lib.hid ⟨hs1, hg1⟩
  clear hs1 hg1 HF
  go_wp2
  go_ret
  exact ⟨_, rfl, HR.out⟩
theorem flat_le {α : Type} (n : Nat) : ∀ (ls : List (List α)), (∀ x ∈ ls, x.length ≤ n) → ls.flatten.length ≤ ls.length * n
  | [], _ => by simp
  | x :: ls, h => by
    have h1 := flat_le n ls fun y hy => h y (List.mem_cons_of_mem _ hy)
    have h2 := h x List.mem_cons_self
    rw [List.flatten_cons, List.length_append, List.length_cons, Nat.add_mul, Nat.one_mul]
    omega
theorem prsN_len (l : List (Int × Int)) : (prsN l).length = 2 * l.length := by
  induction l with
  | nil => rfl
  | cons x l ih =>
    have : prsN (x :: l) = [x.1, x.2] ++ prsN l := rfl
    rw [this, List.length_append, ih, List.length_cons]
    simp
    omega
set_option maxHeartbeats 1000000 in
theorem dpack_any (vm va vb : Value) (M : List (List (List Int))) (a b : List (List (Int × Int))) (X Y Z : Nat → Prop) (w : World) (hm : Sl (encS (encS encU)) X w vm M) (ha : Sl (encS encP) Y w va a) (hb : Sl (encS encP) Z w vb b)
    (m1 : M.length ≤ 10 ∧ ∀ x ∈ M, x.length ≤ 3 ∧ ∀ y ∈ x, y.length ≤ 3) (a1 : a.length ≤ 10 ∧ ∀ x ∈ a, x.length ≤ 3) (b1 : b.length ≤ 10 ∧ ∀ x ∈ b, x.length ≤ 3) :
    Calls Tryz.prog 21 #[vm, va, vb] w (Gives encU (fun g => w.heap.size ≤ g) w (packI M a b)) := by
  have HM := Lib.hid hm
  have HA := Lib.hid ha
  have HB := Lib.hid hb
  have M1 := Lib.hid m1
  have A1 := Lib.hid a1
  have B1 := Lib.hid b1
  obtain ⟨Am, nm, cm, rfl⟩ := hm.shape
  obtain ⟨Aa, na, ca, rfl⟩ := ha.shape
  obtain ⟨Ab, nb, cb, rfl⟩ := hb.shape
  obtain ⟨mx, mt, hx, hpr⟩ : ∃ (x : List (List Int)) (t : List Int), M.flatten = x ∧ x.flatten = t := ⟨_, _, rfl, rfl⟩
  have fl1 : mx.length ≤ 30 ∧ ∀ y ∈ mx, y.length ≤ 3 := by
    rw [← hx]
    refine ⟨Nat.le_trans (flat_le 3 M fun y hy => (m1.2 y hy).1) (by have := m1.1; omega), fun y hy => ?_⟩
    obtain ⟨x, hx, hy⟩ := List.mem_flatten.1 hy
    exact (m1.2 x hx).2 y hy
  have fl2 : mt.length ≤ 90 := by
    rw [← hpr]
    exact Nat.le_trans (flat_le 3 mx fl1.2) (by have := fl1.1; omega)
  have fa : a.flatten.length ≤ 30 := Nat.le_trans (flat_le 3 a a1.2) (by have := a1.1; omega)
  have fb : b.flatten.length ≤ 30 := Nat.le_trans (flat_le 3 b b1.2) (by have := b1.1; omega)
  have F1 := Lib.hid fl1
  have F2 := Lib.hid fl2
  have FA := Lib.hid fa
  have FB := Lib.hid fb
  have HMX : Hid (M.flatten = mx ∧ mx.flatten = mt) := Lib.hid ⟨hx, hpr⟩
  clear hm ha hb m1 a1 b1 hx hpr fl1 fl2 fa fb
  go_enter Tryz.func21, Tryz.ntmps21
  go_wp2_with fail
  refine (flatR_any _ M X w HM.out (by have := M1.out.1; omega) (fun x hx => by have := (M1.out.2 x hx).1; omega)).mono ?_
  rintro e w1 ⟨v1, rfl, hs1, hg1⟩
  have HG1 := Lib.hid hg1
  rw [HMX.out.1] at hs1
  have HS1 := Lib.hid hs1
  obtain ⟨Ax, nx, cx, rfl⟩ := hs1.shape
  clear hs1 hg1
  go_wp2_with fail
  refine (flatU_any _ mx TT w1 HS1.out (by have := F1.out.1; omega) (fun x hx => by have := F1.out.2 x hx; omega)).mono ?_
  rintro e w2 ⟨v2, rfl, hs2, hg2⟩
  have HG2 := hidTrans hg2 HG1
  rw [HMX.out.2] at hs2
  have HT2 : Hid (Sl encU (fun g => w.heap.size ≤ g) w2 v2 mt) := Lib.hid (hs2.more fun g _ h => Nat.le_trans HG1.out.size h)
  obtain ⟨Ay, ny, cy, rfl⟩ := hs2.shape
  clear hs2 hg2
  go_wp2_with fail
  refine (flatP_any _ a Y w2 (HA.out.kept HG2.out) (by have := A1.out.1; omega) (fun x hx => by have := A1.out.2 x hx; omega)).mono ?_
  rintro e w3 ⟨v3, rfl, hs3, hg3⟩
  have HG3 := hidTrans hg3 HG2
  have HT3 := Lib.hid (HT2.out.kept hg3)
  have HP3 := Lib.hid hs3
  obtain ⟨Az, nz, cz, rfl⟩ := hs3.shape
  clear hs3 hg3 HT2
  go_wp2_with fail
  refine (dpairs_any _ a.flatten _ w3 HP3.out (by have := FA.out; omega)).mono ?_
  rintro e w4 ⟨v4, rfl, hs4, hg4⟩
  have HT4 := Lib.hid (HT3.out.kept hg4)
  have HA4 : Hid (Sl encU (fun g => w.heap.size ≤ g) w4 v4 (prsN a.flatten)) := Lib.hid (hs4.more fun g _ h => Nat.le_trans HG3.out.size h)
  have HG4 := hidTrans hg4 HG3
  obtain ⟨Au, nu, cu, rfl⟩ := hs4.shape
  clear hs4 hg4 HT3 HP3
  go_wp2_with fail
  refine (flatP_any _ b Z w4 (HB.out.kept HG4.out) (by have := B1.out.1; omega) (fun x hx => by have := B1.out.2 x hx; omega)).mono ?_
  rintro e w5 ⟨v5, rfl, hs5, hg5⟩
  have HG5 := hidTrans hg5 HG4
  have HT5 := Lib.hid (HT4.out.kept hg5)
  have HA5 := Lib.hid (HA4.out.kept hg5)
  have HP5 := Lib.hid hs5
  obtain ⟨Av, nv, cv, rfl⟩ := hs5.shape
  clear hs5 hg5 HT4 HA4
  go_wp2_with fail
  refine (dpairs_any _ b.flatten _ w5 HP5.out (by have := FB.out; omega)).mono ?_
  rintro e w6 ⟨v6, rfl, hs6, hg6⟩
  have HG6 := hidTrans hg6 HG5
  have HT6 := Lib.hid (HT5.out.kept hg6)
  have HA6 := Lib.hid (HA5.out.kept hg6)
  have HB6 := Lib.hid hs6
  obtain ⟨Aw, nw, cw, rfl⟩ := hs6.shape
  have HTL : Hid (Sl (encS encU) TT (w6.alloc (Obj.cells #[.slice Ay ny cy, .slice Au nu cu, .slice Aw nw cw] 25)) (.slice (some ⟨w6.heap.size, 0, none⟩) 3 3) [mt, prsN a.flatten, prsN b.flatten]) := Lib.hid (Sl.build [[.slice Ay ny cy], [.slice Au nu cu], [.slice Aw nw cw]] rfl ⟨⟨_, rfl, HT6.out.more fun _ _ _ => trivial⟩, ⟨_, rfl, HA6.out.more fun _ _ _ => trivial⟩, ⟨_, rfl, hs6.more fun _ _ _ => trivial⟩, trivial⟩ rfl (by decide))
  obtain ⟨w7, hw7⟩ : ∃ y, y = w6.alloc (Obj.cells #[.slice Ay ny cy, .slice Au nu cu, .slice Aw nw cw] 25) := ⟨_, rfl⟩
  have HG7 : Hid (w.grownBy w7 none) := Lib.hid (by rw [hw7]; exact HG6.out.trans (World.grownBy_alloc _ _ none))
  rw [← hw7] at HTL
  clear hs6 hg6 HT5 HA5 HP5 HT6 HA6 HB6
  go_wp2_with fail
  rw [← hw7]
  clear hw7
  refine (flatU_any _ [mt, prsN a.flatten, prsN b.flatten] TT w7 HTL.out (by simp) (fun x hx => by
    simp only [List.mem_cons, List.not_mem_nil, or_false] at hx
    rcases hx with rfl | rfl | rfl
    · have := F2.out; omega
    · rw [prsN_len]; have := FA.out; omega
    · rw [prsN_len]; have := FB.out; omega)).mono ?_
  rintro e w8 ⟨v8, rfl, hs8, hg8⟩
  have HR : Hid (Sl encU (fun g => w.heap.size ≤ g) w8 v8 (packI M a b) ∧ w.grownBy w8 none) := Lib.hid ⟨by
    unfold packI
    rw [HMX.out.1, HMX.out.2]
    exact hs8.more fun g _ h => Nat.le_trans HG7.out.size h, HG7.out.trans hg8⟩
  clear hs8 hg8 HTL
  go_wp2
  go_ret
  exact ⟨_, rfl, HR.out⟩
end Go.Proofs.YtnjkelojkoeihaaGreatDoor

namespace Go.Proofs.YtnjkelojkoeihaaGreatDoor
open Go Go.RowKit

theorem drop_flat {α : Type} (t : Nat) : ∀ (ls : List (List α)) (j : Nat), (∀ x ∈ ls, x.length = t) → ls.flatten.drop (j * t) = (ls.drop j).flatten
  | _, 0, _ => by simp
  | [], j + 1, _ => by simp
  | x :: ls, j + 1, h => by
    have hx : x.length = t := h x List.mem_cons_self
    rw [List.flatten_cons, List.drop_succ_cons, ← drop_flat t ls j fun y hy => h y (List.mem_cons_of_mem _ hy), show (j + 1) * t = x.length + j * t by rw [hx, Nat.add_mul, Nat.one_mul, Nat.add_comm]]
    rw [← List.drop_drop, List.drop_left]
theorem chk_flat {α : Type} {t : Nat} {ls : List (List α)} (h : ∀ x ∈ ls, x.length = t) : chk t ls.flatten ls.length = ls := by
  refine List.ext_getElem (by simp [chk_length]) fun j h1 h2 => ?_
  simp only [chk, List.getElem_map, List.getElem_range]
  rw [drop_flat t ls j h, List.drop_eq_getElem_cons h2, List.flatten_cons]
  have := h _ (List.getElem_mem h2)
  exact List.take_left' this
theorem flat_len {α : Type} {t : Nat} : ∀ {ls : List (List α)}, (∀ x ∈ ls, x.length = t) → ls.flatten.length = ls.length * t
  | [], _ => by simp
  | x :: ls, h => by
    rw [List.flatten_cons, List.length_append, flat_len fun y hy => h y (List.mem_cons_of_mem _ hy), h x List.mem_cons_self, List.length_cons, Nat.add_mul, Nat.one_mul, Nat.add_comm]
theorem prs_back (l : List (Int × Int)) : prsI (prsN l) l.length = l := by
  have h := chk_flat (t := 2) (ls := l.map fun x => [x.1, x.2]) fun x hx => by
    obtain ⟨y, _, rfl⟩ := List.mem_map.1 hx
    rfl
  rw [List.length_map] at h
  unfold prsI prsN
  rw [h, List.map_map]
  refine (List.map_congr_left fun x _ => ?_).trans (List.map_id l)
  rfl
theorem pack_eq (M : List (List (List Int))) (a b : List (List (Int × Int))) : packI M a b = M.flatten.flatten ++ (prsN a.flatten ++ prsN b.flatten) := by simp [packI]
section
variable {p : Par} (hm : mayP p = true)
include hm
theorem back_small : dsmallB p = true := by
  obtain ⟨hq, hP, ha, n1, n2, n3, t1, t2, t3, hs, k1, d1⟩ := may_apart hm
  obtain ⟨sk1, sk2, sd1, sd2, _⟩ := may_sizes hm
  rw [dsmallB_iff]
  omega
theorem back_sec : secI p = (dltN p : Int) ∧ (secI p).toNat = dltN p ∧ p.T + 1 = ((dltT p + 1 : Nat) : Int) ∧ (p.T + 1).toNat = dltT p + 1 := by
  obtain ⟨h1, h2, h3, h4, h5, h6, _⟩ := dlt_sizes hm
  obtain ⟨sk1, sk2, sd1, sd2, _⟩ := may_sizes hm
  have e : secI p = (dltN p : Int) := by
    unfold secI dltN
    have a : (p.K.toNat : Int) = p.K := by omega
    have b : (p.D.toNat : Int) = p.D := by omega
    rw [Int.natCast_mul, Int.natCast_add, a, b]
    rfl
  exact ⟨e, by rw [e]; rfl, by omega, by omega⟩
/-- A matrix and two lists of so many pairs each. -/
theorem back_open {M : List (List (List Int))} {a b : List (List (Int × Int))} {k : Nat} (hk : k ≤ 3) (m1 : M.length = dltN p ∧ ∀ x ∈ M, x.length = dltT p + 1 ∧ ∀ y ∈ x, y.length = dltT p + 1) (a1 : a.length = dltN p ∧ ∀ x ∈ a, x.length = k) (b1 : b.length = dltN p ∧ ∀ x ∈ b, x.length = k) :
    opnE p (packI M a b).length (k : Int) = 0 ∧ opnM p (packI M a b) (k : Int) = M ∧ opnA p (packI M a b) (k : Int) = a ∧ opnB p (packI M a b) (k : Int) = b ∧ (packI M a b).length ≤ 1500 := by
  obtain ⟨e1, e2, e3, e4⟩ := back_sec hm
  have hf : M.flatten.length = dltN p * (dltT p + 1) := by rw [flat_len fun x hx => (m1.2 x hx).1, m1.1]
  have hf2 : ∀ y ∈ M.flatten, y.length = dltT p + 1 := fun y hy => by
    obtain ⟨x, hx, hy⟩ := List.mem_flatten.1 hy
    exact (m1.2 x hx).2 y hy
  have hff : M.flatten.flatten.length = dltN p * (dltT p + 1) * (dltT p + 1) := by rw [flat_len hf2, hf]
  have ha : (prsN a.flatten).length = 2 * dltN p * k := by rw [prsN_len, flat_len a1.2, a1.1, Nat.mul_assoc]
  have hb : (prsN b.flatten).length = 2 * dltN p * k := by rw [prsN_len, flat_len b1.2, b1.1, Nat.mul_assoc]
  have hE : opnE p (packI M a b).length (k : Int) = 0 := by
    unfold opnE
    rw [if_pos ⟨back_small hm, by omega, by omega⟩, if_pos]
    rw [pack_eq, List.length_append, List.length_append, hff, ha, hb, e1, e3]
    simp only [Int.natCast_add, Int.natCast_mul]
    grind
  refine ⟨hE, ?_, ?_, ?_, ?_⟩
  · unfold opnM
    rw [if_pos hE, e2, e4, pack_eq, List.take_left' hff, ← hf, chk_flat hf2, ← m1.1, chk_flat fun x hx => (m1.2 x hx).1]
  · unfold opnA
    rw [if_pos hE, e2, e4, pack_eq, List.drop_left' hff, Int.toNat_natCast, List.take_left' ha]
    have : dltN p * k = a.flatten.length := by rw [flat_len a1.2, a1.1]
    rw [this, prs_back, ← a1.1, chk_flat a1.2]
  · unfold opnB
    rw [if_pos hE, e2, e4, pack_eq, Int.toNat_natCast, ← List.drop_drop, List.drop_left' hff, List.drop_left' ha]
    have : dltN p * k = b.flatten.length := by rw [flat_len b1.2, b1.1]
    rw [this, prs_back, ← b1.1, chk_flat b1.2]
  · obtain ⟨h1, h2, h3, h4, _⟩ := dlt_sizes hm
    rw [pack_eq, List.length_append, List.length_append, hff, ha, hb]
    have q1 : dltN p * (dltT p + 1) ≤ 10 * 3 := Nat.mul_le_mul h4 (by omega)
    have q2 : dltN p * (dltT p + 1) * (dltT p + 1) ≤ 30 * 3 := Nat.mul_le_mul q1 (by omega)
    have q3 : 2 * dltN p * k ≤ 20 * 3 := Nat.mul_le_mul (by omega) hk
    omega
theorem back_pairs {l : List (Int × Int)} (hl : l.length = dltN p) : opE p (prsN l).length = 0 ∧ opL p (prsN l) = l := by
  obtain ⟨e1, e2, _, _⟩ := back_sec hm
  have hE : opE p (prsN l).length = 0 := by
    unfold opE
    rw [if_pos (back_small hm), if_pos]
    rw [prsN_len, hl, e1]
    simp
  refine ⟨hE, ?_⟩
  unfold opL
  rw [if_pos hE, e2, ← hl, prs_back]
theorem back_coms {C : List (List Int)} (hl : C.length = dltN p) (h : ∀ x ∈ C, x.length = dltT p + 1) : ocE p C.flatten.length = 0 ∧ ocL p C.flatten = C := by
  obtain ⟨e1, e2, e3, e4⟩ := back_sec hm
  have hE : ocE p C.flatten.length = 0 := by
    unfold ocE
    rw [if_pos (back_small hm), if_pos]
    rw [flat_len h, hl, e1, e3, Int.natCast_mul, Int.mul_comm]
  refine ⟨hE, ?_⟩
  unfold ocL
  rw [if_pos hE, e2, e4, ← hl, chk_flat h]
end
theorem alone_len (l : List (Int × Int)) : (l.map fun z => [z]).length = l.length ∧ ∀ x ∈ l.map (fun z => [z]), x.length = 1 := ⟨by simp, fun x hx => by
  obtain ⟨y, _, rfl⟩ := List.mem_map.1 hx
  rfl⟩
theorem dltC_rect {p : Par} (hm : mayP p = true) (hq : U64 p.Q) (l : List Int) (seed : Int) : ∀ c ∈ dltC p l seed, c.length = dltT p + 1 := fun c hc => by
  unfold dltC at hc
  rw [comsI_pairs p (by rw [dltF_len, dltR_len])] at hc
  obtain ⟨s, hs, rfl⟩ := List.mem_map.1 hc
  have hs1 := List.mem_range.1 hs
  obtain ⟨a, ea, la, _⟩ := at_getD (dltF_rect hm hq l seed) hs1
  obtain ⟨b, eb, lb, _⟩ := at_getD (dltR_rect hm hq seed) (s := s) (by rw [dltR_len, ← dltF_len p l seed]; exact hs1)
  rw [ea, eb, Option.getD_some, Option.getD_some, comI_pairs p la lb]
  simp [pairsOf]
end Go.Proofs.YtnjkelojkoeihaaGreatDoor

namespace Go.Proofs.YtnjkelojkoeihaaGreatDoor
open Go Go.RowKit

def Pv.tup {α : Type} (E : Enc α) (xs : List α) (n : Int) : Pv := ⟨fun v w => ∃ u, v = .tuple #[u, .int .i64 n] ∧ Sl E TT w u xs, fun ⟨u, e, h⟩ hg => ⟨u, e, h.kept hg⟩⟩
def Pv.model (W : List (List Int)) (B : List Int) : Pv := ⟨fun v w => ∃ a b, v = .agg #[a, b] ∧ Sl (encS encI) TT w a W ∧ Sl encI TT w b B, fun ⟨a, b, e, h, k⟩ hg => ⟨a, b, e, h.kept hg, k.kept hg⟩⟩
def Pv.mtup (W : List (List Int)) (B : List Int) (n : Int) : Pv := ⟨fun v w => ∃ a b, v = .tuple #[.agg #[a, b], .int .i64 n] ∧ Sl (encS encI) TT w a W ∧ Sl encI TT w b B, fun ⟨a, b, e, h, k⟩ hg => ⟨a, b, e, h.kept hg, k.kept hg⟩⟩
def Pv.dealt (d : Int) (l : List (List Int)) : Pv := ⟨fun v w => ∃ u, v = .agg #[.int .i64 d, u] ∧ Sl (encS encU) TT w u l, fun ⟨u, e, h⟩ hg => ⟨u, e, h.kept hg⟩⟩
end Go.Proofs.YtnjkelojkoeihaaGreatDoor
