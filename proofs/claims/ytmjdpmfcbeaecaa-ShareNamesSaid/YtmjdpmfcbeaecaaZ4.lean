/- The same steps, where the region does not draw its order. What is known of tuples and structs in closed laws. consistorylaw20.works, walked (printed by mk_snames.py). consistorylaw20.ShareNames, walked (printed by mk_snames.py). What comes in: data of whatever depth, as the walks want it. Params and pairs that came in by value. -/
import Derived.Test.YtmjdpmfcbeaecaaZ3
import Derived.Deep.DeepCutAuto
import Derived.ProofKit
import Derived.OpenShut
import Derived.ChangeOld
import Derived.Deep.Slices
namespace Go.Proofs.Ytmjdpmfcbeaecaa
open Go

section
variable {P : Program} {Q : Exit → Act → World → Prop} {a0 : Act} {w0 : World}
def upTo (k m : Nat) : Array Bool := Array.replicate k true ++ Array.replicate (m - k) false
theorem upTo_at {k m i : Nat} (hk : k ≤ m) (d : Bool) : (upTo k m).getD i d = if i < k then true else if i < m then false else d := by
  unfold upTo
  rw [Array.getD_eq_getD_getElem?, Array.getElem?_append]
  by_cases h1 : i < k
  · simp [h1]
  · by_cases h2 : i < m
    · simp [h1, h2, show i - k < m - k by omega]
    · simp [h1, h2, show ¬ i - k < m - k by omega]
theorem upTo_set {k m : Nat} (hk : k < m) : (upTo k m).setIfInBounds k true = upTo (k + 1) m := by
  refine Array.ext (by simp [upTo]; omega) fun i h1 h2 => ?_
  have e1 := upTo_at (k := k + 1) (m := m) (i := i) (by omega) false
  have e2 := upTo_at (k := k) (m := m) (i := i) (by omega) false
  have h3 : i < (upTo k m).size := by simpa using h1
  rw [Array.getElem_setIfInBounds h3]
  rw [Array.getD_eq_getD_getElem?, Array.getElem?_eq_getElem h2] at e1
  rw [Array.getD_eq_getD_getElem?, Array.getElem?_eq_getElem h3] at e2
  simp only [Option.getD_some] at e1 e2
  rw [e1]
  split
  · rename_i h
    subst h
    simp
  · rename_i h
    rw [e2]
    by_cases h4 : i < k
    · simp [h4, show i < k + 1 by omega]
    · simp [h4, show ¬ i < k + 1 by omega]
def seqmB (ops : Array Oper) (n sz : Nat) : Bool := Region.noSelect ops && decide (n ≤ ops.size) && topoB ops n && distB ops n sz
theorem wpList_monoR {l : List Oper} (n : Nat) (hB : seqmB l.toArray n a0.tmps.size = true)
    (h : MonoR P l.toArray n a0 w0 (fun Vs => ∀ w, w0.grownBy w none → FinN P l.toArray Q w Vs l a0) n [] l) : wpList P l.toArray Q l a0 w0 := by
  obtain ⟨hM', hn'⟩ := MonoN.cut (MonoR.up h)
  simp only [seqmB, Bool.and_eq_true, decide_eq_true_eq] at hB
  obtain ⟨⟨⟨hsel, hn⟩, htopo⟩, hdist⟩ := hB
  obtain ⟨Vs, hVl, hF, hO⟩ := Mono.out hM'
  simp only [List.reverse_nil, List.nil_append, List.length_nil, Nat.zero_add] at hF hO
  have htl : (l.take n).length = n := by simp; omega
  have hVn : Vs.length = n := hVl.trans htl
  have hsz : l.toArray.size = l.length := by simp
  have key : ∀ m k a w, k + m = n → MInv l.toArray n a0 w0 Vs (upTo k l.toArray.size) a w → wpList P l.toArray Q (l.drop k) a w := by
    intro m
    induction m with
    | zero =>
      intro k a w hk inv
      obtain rfl : k = n := by omega
      have hk : ∀ (q : Nat) (V : Pv) (o : Oper), Vs[q]? = some V → (l.take k)[q]? = some o → V.p (match o.dst with | some d => a.eval (.tmp d) | none => undef) w := by
        intro q V o hv ho
        have hqn : q < k := by have := (List.getElem?_eq_some_iff.1 hv).1; omega
        have h1 := inv.known q V (by rw [upTo_at hn]; simp [hqn]) hv
        have h2 : dstAt l.toArray q = o.dst := by
          have : l[q]? = some o := by rw [List.getElem?_take, if_pos hqn] at ho; exact ho
          simp [dstAt, this]
        rw [h2] at h1
        have h3 : (match o.dst with | some d => a.eval (.tmp d) | none => undef) = valOf o.dst a := by cases o.dst <;> rfl
        rw [h3]
        exact h1
      have hcut := FinN.cut (by rw [hVn]; omega) (hF w inv.grown)
      rw [hVn] at hcut
      have hfin := Fin'.all hVl hk hcut
      have hon : onto a ((l.take k).map (·.dst)) a0 = a := by
        refine act_ext (fun t => onto_at a t _ _ inv.tsize.symm ?_) ((onto_defers _ _ _).trans inv.defers.symm)
        by_cases ht : some t ∈ (l.take k).map (·.dst)
        · exact .inl ht
        · refine .inr (inv.rest t fun j hj _ e => ht ?_).symm
          have hjl : j < l.length := by omega
          have : l[j].dst = some t := by simpa [dstAt, hjl] using e
          exact List.mem_map.2 ⟨l[j], List.mem_iff_getElem?.2 ⟨j, by rw [List.getElem?_take, if_pos hj, List.getElem?_eq_getElem hjl]⟩, this⟩
      rw [hon] at hfin
      exact hfin
    | succ m ih =>
      intro k a w hk inv
      have hkn : k < n := by omega
      have hkl : k < l.length := by omega
      have ho : l.toArray[k]? = some l[k] := by simp [hkl]
      have hnext : (l.take n)[k]? = some l[k] := by rw [List.getElem?_take, if_pos hkn, List.getElem?_eq_getElem hkl]
      obtain ⟨V, js, hV, hchk, hask⟩ := hO k l[k] hnext
      simp only [Bool.and_eq_true] at hchk
      obtain ⟨hpair, hlook⟩ := hchk
      have hu : (upTo k l.toArray.size).getD k true = false := by rw [upTo_at (by omega)]; simp [hkl]
      have hed : ∀ e ∈ l[k].after, Region.binds .any e = true → (upTo k l.toArray.size).getD e.on false = true := fun e he hb => by
        have ht := list_all_range htopo hkn
        simp only [ho, Option.map_some, Option.getD_some] at ht
        have := Array.all_eq_true_iff_forall_mem.1 ht e he
        rw [upTo_at (by omega)]
        simp only [hb, Bool.not_true, Bool.false_or, decide_eq_true_eq] at this
        simp [this]
      have hi : k ∈ Region.ready .any l.toArray (upTo k l.toArray.size) := mem_ready.2 ⟨hu, _, ho, hed⟩
      have hdst : ∀ d, l[k].dst = some d → d < a.tmps.size := by
        intro d hd
        have := list_all_range hdist hkn
        have h2 : dstAt l.toArray k = some d := by simp only [dstAt, ho]; exact hd
        rw [h2] at this
        simp only [Bool.and_eq_true, decide_eq_true_eq] at this
        rw [inv.tsize]
        exact this.1
      have hjs : ∀ x : Nat × Tmp, x ∈ js → dstAt l.toArray x.1 = some x.2 ∧ (upTo k l.toArray.size).getD x.1 false = true ∧ x.1 < k := by
        intro x hx
        have := List.all_eq_true.1 hpair x hx
        simp only [Bool.and_eq_true, beq_iff_eq] at this
        obtain ⟨oj, hoj, e, he, hb, hon⟩ := Region.waitsFor_spec this.2
        have hoo : l[k] = oj := Option.some.inj (ho.symm.trans hoj)
        subst hoo
        have ht := list_all_range htopo hkn
        simp only [ho, Option.map_some, Option.getD_some] at ht
        have ht := Array.all_eq_true_iff_forall_mem.1 ht e he
        simp only [hb, Bool.not_true, Bool.false_or, decide_eq_true_eq] at ht
        exact ⟨this.1, by rw [← hon]; exact hed e he hb, by rw [← hon]; exact ht⟩
      have hA := hask w inv.grown
      have hW := Ask.all (b := a) (fun x hx => by
        obtain ⟨h1, h2, h3⟩ := hjs x hx
        have hxl : x.1 < Vs.length := by omega
        have h4 : Vs[x.1]? = some Vs[x.1] := List.getElem?_eq_getElem hxl
        have h5 := inv.known x.1 _ h2 h4
        rw [h1] at h5
        have : (Vs.take k).getD x.1 Pv.any = Vs[x.1] := by
          rw [List.getD_eq_getElem?_getD, List.getElem?_take, if_pos h3, h4]
          rfl
        rw [this]
        exact h5) hA
      have hop := told_op (Q := Q) (ops := l.toArray) (a0 := a0) (a := a) (Region.noSelect_spec hsel k l[k] · · ho) hdst ((onto_size _ _ _).trans inv.tsize.symm) (fun t ht => by
        refine onto_at a t _ _ inv.tsize.symm ?_
        have h1 : (l[k].looksAt l.toArray).all (fun t => js.any (·.2 == t) || keptB l.toArray n k t) = true := by
          simpa only [lookB, ho, Option.map_some, Option.getD_some] using hlook
        have h2 := List.all_eq_true.1 h1 t ht
        simp only [Bool.or_eq_true] at h2
        rcases h2 with h2 | h2
        · left
          obtain ⟨x, hx, hxt⟩ := List.any_eq_true.1 h2
          exact List.mem_map.2 ⟨x, hx, by rw [beq_iff_eq.1 hxt]⟩
        · right
          refine (inv.rest t fun j hj hD e => ?_).symm
          have h3 := list_all_range h2 hj
          simp only [Bool.or_eq_true, bne_iff_ne, ne_eq, beq_iff_eq] at h3
          rcases h3 with (h3 | h3) | h3
          · exact h3 e
          · obtain ⟨oj, hoj, e', he', hb', hon⟩ := Region.waitsFor_spec h3
            have := inv.head.closed j oj hoj hD e' he' hb'
            rw [hon, getD_both hu] at this
            cases this
          · subst h3
            rw [getD_both hu] at hD
            cases hD) ho (onto_defers _ _ _) hW
      have hstep : wpOp P l.toArray Q k (wpList P l.toArray Q (l.drop (k + 1))) a w := wpOp_mono (fun a' w' hk' => by
        obtain ⟨v, ha, hv, hg⟩ := hk'
        have := minv_step inv hdist hi hkn ho hV (by omega) ha hv hg
        rw [upTo_set (by omega)] at this
        exact ih (k + 1) a' w' (by omega) this) hop
      rw [List.drop_eq_getElem_cons hkl]
      unfold wpOp at hstep
      simp only [ho] at hstep
      exact hstep
  refine key n 0 a0 w0 (by omega) ⟨⟨by simp [upTo], fun j oj hj hD => by rw [upTo_at (by omega)] at hD; simp at hD, fun t _ ht => by rw [upTo_at (by omega)]; simp at ht; simp [ht]⟩, World.grownBy.refl w0 none, rfl, rfl, fun _ _ => rfl, fun j V hD => by rw [upTo_at (by omega)] at hD; simp at hD⟩
theorem wp_region_seqm {l : List Oper} {id : Nat} (n : Nat) (hB : seqmB l.toArray n a0.tmps.size = true)
    (h : MonoR P l.toArray n a0 w0 (fun Vs => ∀ w, w0.grownBy w none → FinN P l.toArray Q w Vs l a0) n [] l) : (Code.region id l.toArray false).wp P Q a0 w0 :=
  wp_region_lit (wpList_monoR n hB h)
end
end Go.Proofs.Ytmjdpmfcbeaecaa

namespace Go.Proofs.Ytmjdpmfcbeaecaa
open Go Go.RowKit

def Pv.tup {α : Type} (E : Enc α) (xs : List α) (n : Int) : Pv := ⟨fun v w => ∃ u, v = .tuple #[u, .int .i64 n] ∧ Sl E TT w u xs, fun ⟨u, e, h⟩ hg => ⟨u, e, h.kept hg⟩⟩
def Pv.model (W : List (List Int)) (B : List Int) : Pv := ⟨fun v w => ∃ a b, v = .agg #[a, b] ∧ Sl (encS encI) TT w a W ∧ Sl encI TT w b B, fun ⟨a, b, e, h, k⟩ hg => ⟨a, b, e, h.kept hg, k.kept hg⟩⟩
def Pv.mtup (W : List (List Int)) (B : List Int) (n : Int) : Pv := ⟨fun v w => ∃ a b, v = .tuple #[.agg #[a, b], .int .i64 n] ∧ Sl (encS encI) TT w a W ∧ Sl encI TT w b B, fun ⟨a, b, e, h, k⟩ hg => ⟨a, b, e, h.kept hg, k.kept hg⟩⟩
def Pv.dealt (d : Int) (l : List (List Int)) : Pv := ⟨fun v w => ∃ u, v = .agg #[.int .i64 d, u] ∧ Sl (encS encU) TT w u l, fun ⟨u, e, h⟩ hg => ⟨u, e, h.kept hg⟩⟩
end Go.Proofs.Ytmjdpmfcbeaecaa

namespace Go.Proofs.Ytmjdpmfcbeaecaa
open Go Go.RowKit

set_option maxRecDepth 100000 in
set_option maxHeartbeats 4000000 in
theorem works20_any (w : World) : Calls Try.prog 6 #[] w fun e w' => e = .returned (.bool true) ∧ w.grownBy w' none := by
  go_enter Try.func6, Try.ntmps6
  go_wp2_with fail
  refine (small20_any w).mono ?_
  rintro e w2 ⟨rfl, hg⟩
  have HB : Hid (Bk (w2.alloc (.cells ps.cells 24)) w2.heap.size 24 ps.cells) := Lib.hid (Bk.new w2 _ _)
  have HG : Hid (w.grownBy (w2.alloc (.cells ps.cells 24)) none) := Lib.hid (hg.trans (World.grownBy_alloc _ _ none))
  clear hg
  go_upto_region 2 with (fail)
  obtain ⟨w3, hw3⟩ : ∃ w3, w2.alloc (.cells ps.cells 24) = w3 := ⟨_, rfl⟩
  rw [hw3] at HB HG ⊢
  clear hw3
  refine wp_region_seqm 8 (by kernel_rfl) ?_
  -- op 0 (slot 14): build
  refine MonoR.step (Pv.eq (.agg #[.int .u64 6, .int .u64 5])) [] (by kernel_rfl) (fun w' hw' => ?_) ?_
  · refine ask_do rfl fun K hK => ?_
    go_simp
    exact hK _ _ rfl rfl (World.grownBy.refl _ none)
  -- op 1 (slot 15): build
  refine MonoR.step (Pv.eq (.agg #[.int .u64 0, .int .u64 0])) [] (by kernel_rfl) (fun w' hw' => ?_) ?_
  · refine ask_do rfl fun K hK => ?_
    go_simp
    exact hK _ _ rfl rfl (World.grownBy.refl _ none)
  -- op 2 (slot 16): buildSlice
  refine MonoR.step (Pv.sl (encP) TT [(6, 5), (0, 0)]) [(0, 14), (1, 15)] (by kernel_rfl) (fun w' hw' => ?_) ?_
  · rintro _ rfl
    rintro _ rfl
    refine ask_do rfl fun K hK => ?_
    go_simp
    exact hK _ _ rfl (Sl.build [[.int .u64 6, .int .u64 5], [.int .u64 0, .int .u64 0]] rfl ⟨⟨rfl, by decide, by decide⟩, ⟨rfl, by decide, by decide⟩, trivial⟩ rfl (by decide)) (World.grownBy_alloc w' _ none)
  -- op 3 (slot 17): build
  refine MonoR.step (Pv.eq (.agg #[.int .u64 7, .int .u64 8])) [] (by kernel_rfl) (fun w' hw' => ?_) ?_
  · refine ask_do rfl fun K hK => ?_
    go_simp
    exact hK _ _ rfl rfl (World.grownBy.refl _ none)
  -- op 4 (slot 18): build
  refine MonoR.step (Pv.eq (.agg #[.int .u64 4, .int .u64 6])) [] (by kernel_rfl) (fun w' hw' => ?_) ?_
  · refine ask_do rfl fun K hK => ?_
    go_simp
    exact hK _ _ rfl rfl (World.grownBy.refl _ none)
  -- op 5 (slot 19): buildSlice
  refine MonoR.step (Pv.sl (encP) TT [(7, 8), (4, 6)]) [(3, 17), (4, 18)] (by kernel_rfl) (fun w' hw' => ?_) ?_
  · rintro _ rfl
    rintro _ rfl
    refine ask_do rfl fun K hK => ?_
    go_simp
    exact hK _ _ rfl (Sl.build [[.int .u64 7, .int .u64 8], [.int .u64 4, .int .u64 6]] rfl ⟨⟨rfl, by decide, by decide⟩, ⟨rfl, by decide, by decide⟩, trivial⟩ rfl (by decide)) (World.grownBy_alloc w' _ none)
  -- op 6 (slot 20): buildSlice
  refine MonoR.step (Pv.sl (encS encP) TT [[(6, 5), (0, 0)], [(7, 8), (4, 6)]]) [(2, 16), (5, 19)] (by kernel_rfl) (fun w' hw' => ?_) ?_
  · intro x16 h16
    have h16 : Sl (encP) TT w' x16 [(6, 5), (0, 0)] := h16
    obtain ⟨A16, c16, e16, k16, l16⟩ := h16.form
    have e16 : x16 = .slice A16 2 c16 := e16
    subst e16
    intro x19 h19
    have h19 : Sl (encP) TT w' x19 [(7, 8), (4, 6)] := h19
    obtain ⟨A19, c19, e19, k19, l19⟩ := h19.form
    have e19 : x19 = .slice A19 2 c19 := e19
    subst e19
    refine ask_do rfl fun K hK => ?_
    go_simp
    exact hK _ _ rfl (Sl.build [[.slice A16 2 c16], [.slice A19 2 c19]] rfl ⟨⟨_, rfl, h16⟩, ⟨_, rfl, h19⟩, trivial⟩ rfl (by decide)) (World.grownBy_alloc w' _ none)
  -- op 7 (slot 2): assign
  refine MonoR.step (Pv.sl (encS encP) TT [[(6, 5), (0, 0)], [(7, 8), (4, 6)]]) [(6, 20)] (by kernel_rfl) (fun w' hw' => ?_) ?_
  · intro x20 h20
    have h20 : Sl (encS encP) TT w' x20 [[(6, 5), (0, 0)], [(7, 8), (4, 6)]] := h20
    refine ask_do rfl fun K hK => ?_
    go_simp
    exact hK _ _ rfl h20 (World.grownBy.refl _ none)
  intro w4 hww4
  intro _ _
  intro _ _
  intro _ _
  intro _ _
  intro _ _
  intro _ _
  intro _ _
  intro v2 h2'
  simp only [Act.put, List.setIfInBounds_toArray, List.set_cons_zero, List.set_cons_succ]
  have HBd : Hid (Bk w4 w2.heap.size 24 ps.cells) := Lib.hid (Bk.grown HB.out hww4 (by simp))
  have HGd : Hid (w.grownBy w4 none) := Lib.hid ((HG.out).trans hww4)
  clear HB
  have HB := HBd
  clear HBd
  clear HG
  have HG := HGd
  clear HGd
  have HS2 : Hid (Sl (encS encP) TT w4 v2 [[(6, 5), (0, 0)], [(7, 8), (4, 6)]]) := Lib.hid h2'
  clear h2'
  clear hww4
  refine wpList_nil ?_
  go_upto_region 3 with (fail)
  refine wp_region_seqm 9 (by kernel_rfl) ?_
  -- op 0 (slot 22): load
  refine MonoR.step (Pv.eq (ps.v)) [] (by kernel_rfl) (fun w' hw' => ?_) ?_
  · refine ask_do rfl fun K hK => ?_
    have hp := (HB.out.grown hw' (by simp)).prule
    go_simp
    exact hK _ _ rfl rfl (World.grownBy.refl _ none)
  -- op 1 (slot 23): buildSlice
  refine MonoR.step (Pv.sl (encI) TT [1, 2]) [] (by kernel_rfl) (fun w' hw' => ?_) ?_
  · refine ask_do rfl fun K hK => ?_
    go_simp
    exact hK _ _ rfl (Sl.build [[.int .i64 1], [.int .i64 2]] rfl ⟨⟨rfl, ⟨by decide, by decide⟩⟩, ⟨rfl, ⟨by decide, by decide⟩⟩, trivial⟩ rfl (by decide)) (World.grownBy_alloc w' _ none)
  -- op 2 (slot 24): move
  refine MonoR.step (Pv.sl (encS encP) TT [[(6, 5), (0, 0)], [(7, 8), (4, 6)]]) [] (by kernel_rfl) (fun w' hw' => ?_) ?_
  · refine ask_do rfl fun K hK => ?_
    go_simp
    exact hK _ _ rfl (HS2.out.kept hw') (World.grownBy.refl _ none)
  -- op 3 (slot 25): call
  refine MonoR.step (Pv.tup (encP) [(5, 2), (7, 5)] 0) [(0, 22), (1, 23), (2, 24)] (by kernel_rfl) (fun w' hw' => ?_) ?_
  · rintro _ rfl
    intro x23 h23
    have h23 : Sl (encI) TT w' x23 [1, 2] := h23
    intro x24 h24
    have h24 : Sl (encS encP) TT w' x24 [[(6, 5), (0, 0)], [(7, 8), (4, 6)]] := h24
    refine ask_do rfl fun K hK => ?_
    go_simp
    refine (sum_any ps _ [1, 2] _ [[(6, 5), (0, 0)], [(7, 8), (4, 6)]] TT TT w' ps_ok h23 h24 (by decide) (by decide)).mono ?_
    rintro e w3 ⟨v3, he, h3, hg⟩
    rw [(show sumE ps [1, 2] [[(6, 5), (0, 0)], [(7, 8), (4, 6)]] = 0 by rw [sumE_eq]; decide +kernel)] at he
    rw [(show sumL ps [1, 2] [[(6, 5), (0, 0)], [(7, 8), (4, 6)]] = [(5, 2), (7, 5)] by rw [sumL_eq]; decide +kernel)] at h3
    subst he
    exact hK _ _ rfl ⟨_, rfl, h3.more (fun _ _ _ => trivial)⟩ hg
  -- op 4 (slot 21): move
  refine MonoR.step (Pv.tup (encP) [(5, 2), (7, 5)] 0) [(3, 25)] (by kernel_rfl) (fun w' hw' => ?_) ?_
  · intro x25 q25
    obtain ⟨u25, e25, h25⟩ : ∃ u, x25 = .tuple #[u, .int .i64 0] ∧ Sl (encP) TT w' u [(5, 2), (7, 5)] := q25
    subst e25
    refine ask_do rfl fun K hK => ?_
    go_simp
    exact hK _ _ rfl ⟨_, rfl, h25⟩ (World.grownBy.refl _ none)
  -- op 5 (slot 26): extract
  refine MonoR.step (Pv.sl (encP) TT [(5, 2), (7, 5)]) [(4, 21)] (by kernel_rfl) (fun w' hw' => ?_) ?_
  · intro x21 q21
    obtain ⟨u21, e21, h21⟩ : ∃ u, x21 = .tuple #[u, .int .i64 0] ∧ Sl (encP) TT w' u [(5, 2), (7, 5)] := q21
    subst e21
    refine ask_do rfl fun K hK => ?_
    go_simp
    exact hK _ _ rfl h21 (World.grownBy.refl _ none)
  -- op 6 (slot 27): extract
  refine MonoR.step (Pv.eq (.int .i64 0)) [(4, 21)] (by kernel_rfl) (fun w' hw' => ?_) ?_
  · intro x21 q21
    obtain ⟨u21, e21, h21⟩ : ∃ u, x21 = .tuple #[u, .int .i64 0] ∧ Sl (encP) TT w' u [(5, 2), (7, 5)] := q21
    subst e21
    refine ask_do rfl fun K hK => ?_
    go_simp
    exact hK _ _ rfl rfl (World.grownBy.refl _ none)
  -- op 7 (slot 3): assign
  refine MonoR.step (Pv.sl (encP) TT [(5, 2), (7, 5)]) [(5, 26)] (by kernel_rfl) (fun w' hw' => ?_) ?_
  · intro x26 h26
    have h26 : Sl (encP) TT w' x26 [(5, 2), (7, 5)] := h26
    refine ask_do rfl fun K hK => ?_
    go_simp
    exact hK _ _ rfl h26 (World.grownBy.refl _ none)
  -- op 8 (slot 4): assign
  refine MonoR.step (Pv.eq (.int .i64 0)) [(6, 27)] (by kernel_rfl) (fun w' hw' => ?_) ?_
  · rintro _ rfl
    refine ask_do rfl fun K hK => ?_
    go_simp
    exact hK _ _ rfl rfl (World.grownBy.refl _ none)
  intro w5 hww5
  intro _ _
  intro _ _
  intro _ _
  intro _ _
  intro _ _
  intro _ _
  intro _ _
  intro v3 h3'
  rintro _ rfl
  simp only [Act.put, List.setIfInBounds_toArray, List.set_cons_zero, List.set_cons_succ]
  have HBd : Hid (Bk w5 w2.heap.size 24 ps.cells) := Lib.hid (Bk.grown HB.out hww5 (by simp))
  have HGd : Hid (w.grownBy w5 none) := Lib.hid ((HG.out).trans hww5)
  have HS2d : Hid (Sl (encS encP) TT w5 v2 [[(6, 5), (0, 0)], [(7, 8), (4, 6)]]) := Lib.hid (Sl.kept HS2.out hww5)
  clear HB
  have HB := HBd
  clear HBd
  clear HG
  have HG := HGd
  clear HGd
  clear HS2
  have HS2 := HS2d
  clear HS2d
  have HS3 : Hid (Sl (encP) TT w5 v3 [(5, 2), (7, 5)]) := Lib.hid h3'
  clear h3'
  clear hww5
  refine wpList_nil ?_
  go_upto_region 4 with (fail)
  refine wp_region_seqm 9 (by kernel_rfl) ?_
  -- op 0 (slot 29): load
  refine MonoR.step (Pv.eq (ps.v)) [] (by kernel_rfl) (fun w' hw' => ?_) ?_
  · refine ask_do rfl fun K hK => ?_
    have hp := (HB.out.grown hw' (by simp)).prule
    go_simp
    exact hK _ _ rfl rfl (World.grownBy.refl _ none)
  -- op 1 (slot 30): buildSlice
  refine MonoR.step (Pv.sl (encI) TT [1, 1]) [] (by kernel_rfl) (fun w' hw' => ?_) ?_
  · refine ask_do rfl fun K hK => ?_
    go_simp
    exact hK _ _ rfl (Sl.build [[.int .i64 1], [.int .i64 1]] rfl ⟨⟨rfl, ⟨by decide, by decide⟩⟩, ⟨rfl, ⟨by decide, by decide⟩⟩, trivial⟩ rfl (by decide)) (World.grownBy_alloc w' _ none)
  -- op 2 (slot 31): move
  refine MonoR.step (Pv.sl (encS encP) TT [[(6, 5), (0, 0)], [(7, 8), (4, 6)]]) [] (by kernel_rfl) (fun w' hw' => ?_) ?_
  · refine ask_do rfl fun K hK => ?_
    go_simp
    exact hK _ _ rfl (HS2.out.kept hw') (World.grownBy.refl _ none)
  -- op 3 (slot 32): call
  refine MonoR.step (Pv.tup (encP) [] 6) [(0, 29), (1, 30), (2, 31)] (by kernel_rfl) (fun w' hw' => ?_) ?_
  · rintro _ rfl
    intro x30 h30
    have h30 : Sl (encI) TT w' x30 [1, 1] := h30
    intro x31 h31
    have h31 : Sl (encS encP) TT w' x31 [[(6, 5), (0, 0)], [(7, 8), (4, 6)]] := h31
    refine ask_do rfl fun K hK => ?_
    go_simp
    refine (sum_any ps _ [1, 1] _ [[(6, 5), (0, 0)], [(7, 8), (4, 6)]] TT TT w' ps_ok h30 h31 (by decide) (by decide)).mono ?_
    rintro e w3 ⟨v3, he, h3, hg⟩
    rw [(show sumE ps [1, 1] [[(6, 5), (0, 0)], [(7, 8), (4, 6)]] = 6 by rw [sumE_eq]; decide +kernel)] at he
    rw [(show sumL ps [1, 1] [[(6, 5), (0, 0)], [(7, 8), (4, 6)]] = [] by rw [sumL_eq]; decide +kernel)] at h3
    subst he
    exact hK _ _ rfl ⟨_, rfl, h3.more (fun _ _ _ => trivial)⟩ hg
  -- op 4 (slot 28): move
  refine MonoR.step (Pv.tup (encP) [] 6) [(3, 32)] (by kernel_rfl) (fun w' hw' => ?_) ?_
  · intro x32 q32
    obtain ⟨u32, e32, h32⟩ : ∃ u, x32 = .tuple #[u, .int .i64 6] ∧ Sl (encP) TT w' u [] := q32
    subst e32
    refine ask_do rfl fun K hK => ?_
    go_simp
    exact hK _ _ rfl ⟨_, rfl, h32⟩ (World.grownBy.refl _ none)
  -- op 5 (slot 33): extract
  refine MonoR.step (Pv.sl (encP) TT []) [(4, 28)] (by kernel_rfl) (fun w' hw' => ?_) ?_
  · intro x28 q28
    obtain ⟨u28, e28, h28⟩ : ∃ u, x28 = .tuple #[u, .int .i64 6] ∧ Sl (encP) TT w' u [] := q28
    subst e28
    refine ask_do rfl fun K hK => ?_
    go_simp
    exact hK _ _ rfl h28 (World.grownBy.refl _ none)
  -- op 6 (slot 34): extract
  refine MonoR.step (Pv.eq (.int .i64 6)) [(4, 28)] (by kernel_rfl) (fun w' hw' => ?_) ?_
  · intro x28 q28
    obtain ⟨u28, e28, h28⟩ : ∃ u, x28 = .tuple #[u, .int .i64 6] ∧ Sl (encP) TT w' u [] := q28
    subst e28
    refine ask_do rfl fun K hK => ?_
    go_simp
    exact hK _ _ rfl rfl (World.grownBy.refl _ none)
  -- op 7 (slot 5): assign
  refine MonoR.step (Pv.sl (encP) TT []) [(5, 33)] (by kernel_rfl) (fun w' hw' => ?_) ?_
  · intro x33 h33
    have h33 : Sl (encP) TT w' x33 [] := h33
    refine ask_do rfl fun K hK => ?_
    go_simp
    exact hK _ _ rfl h33 (World.grownBy.refl _ none)
  -- op 8 (slot 6): assign
  refine MonoR.step (Pv.eq (.int .i64 6)) [(6, 34)] (by kernel_rfl) (fun w' hw' => ?_) ?_
  · rintro _ rfl
    refine ask_do rfl fun K hK => ?_
    go_simp
    exact hK _ _ rfl rfl (World.grownBy.refl _ none)
  intro w6 hww6
  intro _ _
  intro _ _
  intro _ _
  intro _ _
  intro _ _
  intro _ _
  intro _ _
  intro _ _
  rintro _ rfl
  simp only [Act.put, List.setIfInBounds_toArray, List.set_cons_zero, List.set_cons_succ]
  have HBd : Hid (Bk w6 w2.heap.size 24 ps.cells) := Lib.hid (Bk.grown HB.out hww6 (by simp))
  have HGd : Hid (w.grownBy w6 none) := Lib.hid ((HG.out).trans hww6)
  have HS2d : Hid (Sl (encS encP) TT w6 v2 [[(6, 5), (0, 0)], [(7, 8), (4, 6)]]) := Lib.hid (Sl.kept HS2.out hww6)
  have HS3d : Hid (Sl (encP) TT w6 v3 [(5, 2), (7, 5)]) := Lib.hid (Sl.kept HS3.out hww6)
  clear HB
  have HB := HBd
  clear HBd
  clear HG
  have HG := HGd
  clear HGd
  clear HS2
  have HS2 := HS2d
  clear HS2d
  clear HS3
  have HS3 := HS3d
  clear HS3d
  clear hww6
  refine wpList_nil ?_
  go_upto_region 5 with (fail)
  refine wp_region_seqm 9 (by kernel_rfl) ?_
  -- op 0 (slot 36): load
  refine MonoR.step (Pv.eq (ps.v)) [] (by kernel_rfl) (fun w' hw' => ?_) ?_
  · refine ask_do rfl fun K hK => ?_
    have hp := (HB.out.grown hw' (by simp)).prule
    go_simp
    exact hK _ _ rfl rfl (World.grownBy.refl _ none)
  -- op 1 (slot 37): buildSlice
  refine MonoR.step (Pv.sl (encI) TT [1, 8]) [] (by kernel_rfl) (fun w' hw' => ?_) ?_
  · refine ask_do rfl fun K hK => ?_
    go_simp
    exact hK _ _ rfl (Sl.build [[.int .i64 1], [.int .i64 8]] rfl ⟨⟨rfl, ⟨by decide, by decide⟩⟩, ⟨rfl, ⟨by decide, by decide⟩⟩, trivial⟩ rfl (by decide)) (World.grownBy_alloc w' _ none)
  -- op 2 (slot 38): move
  refine MonoR.step (Pv.sl (encS encP) TT [[(6, 5), (0, 0)], [(7, 8), (4, 6)]]) [] (by kernel_rfl) (fun w' hw' => ?_) ?_
  · refine ask_do rfl fun K hK => ?_
    go_simp
    exact hK _ _ rfl (HS2.out.kept hw') (World.grownBy.refl _ none)
  -- op 3 (slot 39): call
  refine MonoR.step (Pv.tup (encP) [] 1) [(0, 36), (1, 37), (2, 38)] (by kernel_rfl) (fun w' hw' => ?_) ?_
  · rintro _ rfl
    intro x37 h37
    have h37 : Sl (encI) TT w' x37 [1, 8] := h37
    intro x38 h38
    have h38 : Sl (encS encP) TT w' x38 [[(6, 5), (0, 0)], [(7, 8), (4, 6)]] := h38
    refine ask_do rfl fun K hK => ?_
    go_simp
    refine (sum_any ps _ [1, 8] _ [[(6, 5), (0, 0)], [(7, 8), (4, 6)]] TT TT w' ps_ok h37 h38 (by decide) (by decide)).mono ?_
    rintro e w3 ⟨v3, he, h3, hg⟩
    rw [(show sumE ps [1, 8] [[(6, 5), (0, 0)], [(7, 8), (4, 6)]] = 1 by rw [sumE_eq]; decide +kernel)] at he
    rw [(show sumL ps [1, 8] [[(6, 5), (0, 0)], [(7, 8), (4, 6)]] = [] by rw [sumL_eq]; decide +kernel)] at h3
    subst he
    exact hK _ _ rfl ⟨_, rfl, h3.more (fun _ _ _ => trivial)⟩ hg
  -- op 4 (slot 35): move
  refine MonoR.step (Pv.tup (encP) [] 1) [(3, 39)] (by kernel_rfl) (fun w' hw' => ?_) ?_
  · intro x39 q39
    obtain ⟨u39, e39, h39⟩ : ∃ u, x39 = .tuple #[u, .int .i64 1] ∧ Sl (encP) TT w' u [] := q39
    subst e39
    refine ask_do rfl fun K hK => ?_
    go_simp
    exact hK _ _ rfl ⟨_, rfl, h39⟩ (World.grownBy.refl _ none)
  -- op 5 (slot 40): extract
  refine MonoR.step (Pv.sl (encP) TT []) [(4, 35)] (by kernel_rfl) (fun w' hw' => ?_) ?_
  · intro x35 q35
    obtain ⟨u35, e35, h35⟩ : ∃ u, x35 = .tuple #[u, .int .i64 1] ∧ Sl (encP) TT w' u [] := q35
    subst e35
    refine ask_do rfl fun K hK => ?_
    go_simp
    exact hK _ _ rfl h35 (World.grownBy.refl _ none)
  -- op 6 (slot 41): extract
  refine MonoR.step (Pv.eq (.int .i64 1)) [(4, 35)] (by kernel_rfl) (fun w' hw' => ?_) ?_
  · intro x35 q35
    obtain ⟨u35, e35, h35⟩ : ∃ u, x35 = .tuple #[u, .int .i64 1] ∧ Sl (encP) TT w' u [] := q35
    subst e35
    refine ask_do rfl fun K hK => ?_
    go_simp
    exact hK _ _ rfl rfl (World.grownBy.refl _ none)
  -- op 7 (slot 7): assign
  refine MonoR.step (Pv.sl (encP) TT []) [(5, 40)] (by kernel_rfl) (fun w' hw' => ?_) ?_
  · intro x40 h40
    have h40 : Sl (encP) TT w' x40 [] := h40
    refine ask_do rfl fun K hK => ?_
    go_simp
    exact hK _ _ rfl h40 (World.grownBy.refl _ none)
  -- op 8 (slot 8): assign
  refine MonoR.step (Pv.eq (.int .i64 1)) [(6, 41)] (by kernel_rfl) (fun w' hw' => ?_) ?_
  · rintro _ rfl
    refine ask_do rfl fun K hK => ?_
    go_simp
    exact hK _ _ rfl rfl (World.grownBy.refl _ none)
  intro w7 hww7
  intro _ _
  intro _ _
  intro _ _
  intro _ _
  intro _ _
  intro _ _
  intro _ _
  intro _ _
  rintro _ rfl
  simp only [Act.put, List.setIfInBounds_toArray, List.set_cons_zero, List.set_cons_succ]
  have HBd : Hid (Bk w7 w2.heap.size 24 ps.cells) := Lib.hid (Bk.grown HB.out hww7 (by simp))
  have HGd : Hid (w.grownBy w7 none) := Lib.hid ((HG.out).trans hww7)
  have HS2d : Hid (Sl (encS encP) TT w7 v2 [[(6, 5), (0, 0)], [(7, 8), (4, 6)]]) := Lib.hid (Sl.kept HS2.out hww7)
  have HS3d : Hid (Sl (encP) TT w7 v3 [(5, 2), (7, 5)]) := Lib.hid (Sl.kept HS3.out hww7)
  clear HB
  have HB := HBd
  clear HBd
  clear HG
  have HG := HGd
  clear HGd
  clear HS2
  have HS2 := HS2d
  clear HS2d
  clear HS3
  have HS3 := HS3d
  clear HS3d
  clear hww7
  refine wpList_nil ?_
  clear HS2
  go_upto_region 6 with (fail)
  refine wp_region_seqm 6 (by kernel_rfl) ?_
  -- op 0 (slot 43): load
  refine MonoR.step (Pv.eq (ps.v)) [] (by kernel_rfl) (fun w' hw' => ?_) ?_
  · refine ask_do rfl fun K hK => ?_
    have hp := (HB.out.grown hw' (by simp)).prule
    go_simp
    exact hK _ _ rfl rfl (World.grownBy.refl _ none)
  -- op 1 (slot 44): buildSlice
  refine MonoR.step (Pv.sl (encU) TT [1, 10]) [] (by kernel_rfl) (fun w' hw' => ?_) ?_
  · refine ask_do rfl fun K hK => ?_
    go_simp
    exact hK _ _ rfl (Sl.build [[.int .u64 1], [.int .u64 10]] rfl ⟨⟨rfl, ⟨by decide, by decide⟩⟩, ⟨rfl, ⟨by decide, by decide⟩⟩, trivial⟩ rfl (by decide)) (World.grownBy_alloc w' _ none)
  -- op 2 (slot 45): call
  refine MonoR.step (Pv.mtup [[1]] [(-1)] 0) [(0, 43), (1, 44)] (by kernel_rfl) (fun w' hw' => ?_) ?_
  · rintro _ rfl
    intro x44 h44
    have h44 : Sl (encU) TT w' x44 [1, 10] := h44
    refine ask_do rfl fun K hK => ?_
    go_simp
    refine (smodel_any ps _ [1, 10] TT w' ps_ok h44 (by decide)).mono ?_
    rintro e w3 ⟨a3, b3, he, h3, k3, _, hg⟩
    rw [(show modelE ps [1, 10] = 0 by decide +kernel)] at he
    rw [(show modelW ps [1, 10] = [[1]] by decide +kernel)] at h3
    rw [(show modelB ps [1, 10] = [(-1)] by decide +kernel)] at k3
    subst he
    exact hK _ _ rfl ⟨_, _, rfl, h3.plain.more (fun _ _ _ => trivial), k3.more (fun _ _ _ => trivial)⟩ hg
  -- op 3 (slot 42): move
  refine MonoR.step (Pv.mtup [[1]] [(-1)] 0) [(2, 45)] (by kernel_rfl) (fun w' hw' => ?_) ?_
  · intro x45 q45
    obtain ⟨a45, b45, e45, h45, k45⟩ : ∃ a b, x45 = .tuple #[.agg #[a, b], .int .i64 0] ∧ Sl (encS encI) TT w' a [[1]] ∧ Sl encI TT w' b [(-1)] := q45
    subst e45
    refine ask_do rfl fun K hK => ?_
    go_simp
    exact hK _ _ rfl ⟨_, _, rfl, h45, k45⟩ (World.grownBy.refl _ none)
  -- op 4 (slot 46): extract
  refine MonoR.step (Pv.model [[1]] [(-1)]) [(3, 42)] (by kernel_rfl) (fun w' hw' => ?_) ?_
  · intro x42 q42
    obtain ⟨a42, b42, e42, h42, k42⟩ : ∃ a b, x42 = .tuple #[.agg #[a, b], .int .i64 0] ∧ Sl (encS encI) TT w' a [[1]] ∧ Sl encI TT w' b [(-1)] := q42
    subst e42
    refine ask_do rfl fun K hK => ?_
    go_simp
    exact hK _ _ rfl ⟨_, _, rfl, h42, k42⟩ (World.grownBy.refl _ none)
  -- op 5 (slot 47): extract
  refine MonoR.step (Pv.eq (.int .i64 0)) [(3, 42)] (by kernel_rfl) (fun w' hw' => ?_) ?_
  · intro x42 q42
    obtain ⟨a42, b42, e42, h42, k42⟩ : ∃ a b, x42 = .tuple #[.agg #[a, b], .int .i64 0] ∧ Sl (encS encI) TT w' a [[1]] ∧ Sl encI TT w' b [(-1)] := q42
    subst e42
    refine ask_do rfl fun K hK => ?_
    go_simp
    exact hK _ _ rfl rfl (World.grownBy.refl _ none)
  intro w8 hww8
  intro _ _
  intro _ _
  intro _ _
  intro _ _
  intro v46 h46'
  rintro _ rfl
  simp only [Act.put, List.setIfInBounds_toArray, List.set_cons_zero, List.set_cons_succ]
  have HBd : Hid (Bk w8 w2.heap.size 24 ps.cells) := Lib.hid (Bk.grown HB.out hww8 (by simp))
  have HGd : Hid (w.grownBy w8 none) := Lib.hid ((HG.out).trans hww8)
  have HS3d : Hid (Sl (encP) TT w8 v3 [(5, 2), (7, 5)]) := Lib.hid (Sl.kept HS3.out hww8)
  clear HB
  have HB := HBd
  clear HBd
  clear HG
  have HG := HGd
  clear HGd
  clear HS3
  have HS3 := HS3d
  clear HS3d
  obtain ⟨a46, b46, e46, ha46, hb46⟩ := h46'
  subst e46
  have HA46 : Hid (Sl (encS encI) TT w8 a46 [[1]]) := Lib.hid ha46
  have HBB46 : Hid (Sl encI TT w8 b46 [(-1)]) := Lib.hid hb46
  clear ha46 hb46
  clear hww8
  show wpList Try.prog _ _ _ _ w8
  obtain ⟨A46, n46, c46, rfl⟩ := HA46.out.shape
  obtain ⟨D46, m46, d46, rfl⟩ := HBB46.out.shape
  obtain ⟨w9, hww9⟩ : ∃ x, w8.alloc (.cells #[.slice A46 n46 c46, .slice D46 m46 d46] 47) = x := ⟨_, rfl⟩
  have HM9 : Hid (Bk w9 w8.heap.size 47 #[.slice A46 n46 c46, .slice D46 m46 d46]) := Lib.hid (by rw [← hww9]; exact Bk.new _ _ _)
  have HMG9 : Hid (w8.grownBy w9 none) := Lib.hid (by rw [← hww9]; exact World.grownBy_alloc _ _ none)
  have HBd : Hid (Bk w9 w2.heap.size 24 ps.cells) := Lib.hid (Bk.grown HB.out HMG9.out (by simp))
  have HGd : Hid (w.grownBy w9 none) := Lib.hid ((HG.out).trans HMG9.out)
  have HS3d : Hid (Sl (encP) TT w9 v3 [(5, 2), (7, 5)]) := Lib.hid (Sl.kept HS3.out HMG9.out)
  have HA46d : Hid (Sl (encS encI) TT w9 (.slice A46 n46 c46) [[1]]) := Lib.hid (Sl.kept HA46.out HMG9.out)
  have HBB46d : Hid (Sl encI TT w9 (.slice D46 m46 d46) [(-1)]) := Lib.hid (Sl.kept HBB46.out HMG9.out)
  clear HB
  have HB := HBd
  clear HBd
  clear HG
  have HG := HGd
  clear HGd
  clear HS3
  have HS3 := HS3d
  clear HS3d
  clear HA46
  have HA46 := HA46d
  clear HA46d
  clear HBB46
  have HBB46 := HBB46d
  clear HBB46d
  go_upto_region 7 with (fail)
  try rw [hww9]
  clear hww9
  refine wp_region_seqm 6 (by kernel_rfl) ?_
  -- op 0 (slot 49): load
  refine MonoR.step (Pv.eq (ps.v)) [] (by kernel_rfl) (fun w' hw' => ?_) ?_
  · refine ask_do rfl fun K hK => ?_
    have hp := (HB.out.grown hw' (by simp)).prule
    go_simp
    exact hK _ _ rfl rfl (World.grownBy.refl _ none)
  -- op 1 (slot 50): buildSlice
  refine MonoR.step (Pv.sl (encU) TT [2, 0]) [] (by kernel_rfl) (fun w' hw' => ?_) ?_
  · refine ask_do rfl fun K hK => ?_
    go_simp
    exact hK _ _ rfl (Sl.build [[.int .u64 2], [.int .u64 0]] rfl ⟨⟨rfl, ⟨by decide, by decide⟩⟩, ⟨rfl, ⟨by decide, by decide⟩⟩, trivial⟩ rfl (by decide)) (World.grownBy_alloc w' _ none)
  -- op 2 (slot 51): call
  refine MonoR.step (Pv.mtup [] [] 20) [(0, 49), (1, 50)] (by kernel_rfl) (fun w' hw' => ?_) ?_
  · rintro _ rfl
    intro x50 h50
    have h50 : Sl (encU) TT w' x50 [2, 0] := h50
    refine ask_do rfl fun K hK => ?_
    go_simp
    refine (smodel_any ps _ [2, 0] TT w' ps_ok h50 (by decide)).mono ?_
    rintro e w3 ⟨a3, b3, he, h3, k3, _, hg⟩
    rw [(show modelE ps [2, 0] = 20 by decide +kernel)] at he
    rw [(show modelW ps [2, 0] = [] by decide +kernel)] at h3
    rw [(show modelB ps [2, 0] = [] by decide +kernel)] at k3
    subst he
    exact hK _ _ rfl ⟨_, _, rfl, h3.plain.more (fun _ _ _ => trivial), k3.more (fun _ _ _ => trivial)⟩ hg
  -- op 3 (slot 48): move
  refine MonoR.step (Pv.mtup [] [] 20) [(2, 51)] (by kernel_rfl) (fun w' hw' => ?_) ?_
  · intro x51 q51
    obtain ⟨a51, b51, e51, h51, k51⟩ : ∃ a b, x51 = .tuple #[.agg #[a, b], .int .i64 20] ∧ Sl (encS encI) TT w' a [] ∧ Sl encI TT w' b [] := q51
    subst e51
    refine ask_do rfl fun K hK => ?_
    go_simp
    exact hK _ _ rfl ⟨_, _, rfl, h51, k51⟩ (World.grownBy.refl _ none)
  -- op 4 (slot 52): extract
  refine MonoR.step (Pv.model [] []) [(3, 48)] (by kernel_rfl) (fun w' hw' => ?_) ?_
  · intro x48 q48
    obtain ⟨a48, b48, e48, h48, k48⟩ : ∃ a b, x48 = .tuple #[.agg #[a, b], .int .i64 20] ∧ Sl (encS encI) TT w' a [] ∧ Sl encI TT w' b [] := q48
    subst e48
    refine ask_do rfl fun K hK => ?_
    go_simp
    exact hK _ _ rfl ⟨_, _, rfl, h48, k48⟩ (World.grownBy.refl _ none)
  -- op 5 (slot 53): extract
  refine MonoR.step (Pv.eq (.int .i64 20)) [(3, 48)] (by kernel_rfl) (fun w' hw' => ?_) ?_
  · intro x48 q48
    obtain ⟨a48, b48, e48, h48, k48⟩ : ∃ a b, x48 = .tuple #[.agg #[a, b], .int .i64 20] ∧ Sl (encS encI) TT w' a [] ∧ Sl encI TT w' b [] := q48
    subst e48
    refine ask_do rfl fun K hK => ?_
    go_simp
    exact hK _ _ rfl rfl (World.grownBy.refl _ none)
  intro w10 hww10
  intro _ _
  intro _ _
  intro _ _
  intro _ _
  intro v52 h52'
  rintro _ rfl
  simp only [Act.put, List.setIfInBounds_toArray, List.set_cons_zero, List.set_cons_succ]
  have HBd : Hid (Bk w10 w2.heap.size 24 ps.cells) := Lib.hid (Bk.grown HB.out hww10 (by simp))
  have HGd : Hid (w.grownBy w10 none) := Lib.hid ((HG.out).trans hww10)
  have HS3d : Hid (Sl (encP) TT w10 v3 [(5, 2), (7, 5)]) := Lib.hid (Sl.kept HS3.out hww10)
  have HA46d : Hid (Sl (encS encI) TT w10 (.slice A46 n46 c46) [[1]]) := Lib.hid (Sl.kept HA46.out hww10)
  have HBB46d : Hid (Sl encI TT w10 (.slice D46 m46 d46) [(-1)]) := Lib.hid (Sl.kept HBB46.out hww10)
  have HM9d : Hid (Bk w10 w8.heap.size 47 #[.slice A46 n46 c46, .slice D46 m46 d46]) := Lib.hid (Bk.grown HM9.out hww10 (by simp))
  clear HB
  have HB := HBd
  clear HBd
  clear HG
  have HG := HGd
  clear HGd
  clear HS3
  have HS3 := HS3d
  clear HS3d
  clear HA46
  have HA46 := HA46d
  clear HA46d
  clear HBB46
  have HBB46 := HBB46d
  clear HBB46d
  clear HM9
  have HM9 := HM9d
  clear HM9d
  obtain ⟨a52, b52, e52, ha52, hb52⟩ := h52'
  subst e52
  have HA52 : Hid (Sl (encS encI) TT w10 a52 []) := Lib.hid ha52
  have HBB52 : Hid (Sl encI TT w10 b52 []) := Lib.hid hb52
  clear ha52 hb52
  clear hww10
  show wpList Try.prog _ _ _ _ w10
  obtain ⟨A52, n52, c52, rfl⟩ := HA52.out.shape
  obtain ⟨D52, m52, d52, rfl⟩ := HBB52.out.shape
  obtain ⟨w11, hww11⟩ : ∃ x, w10.alloc (.cells #[.slice A52 n52 c52, .slice D52 m52 d52] 47) = x := ⟨_, rfl⟩
  have HM11 : Hid (Bk w11 w10.heap.size 47 #[.slice A52 n52 c52, .slice D52 m52 d52]) := Lib.hid (by rw [← hww11]; exact Bk.new _ _ _)
  have HMG11 : Hid (w10.grownBy w11 none) := Lib.hid (by rw [← hww11]; exact World.grownBy_alloc _ _ none)
  have HBd : Hid (Bk w11 w2.heap.size 24 ps.cells) := Lib.hid (Bk.grown HB.out HMG11.out (by simp))
  have HGd : Hid (w.grownBy w11 none) := Lib.hid ((HG.out).trans HMG11.out)
  have HS3d : Hid (Sl (encP) TT w11 v3 [(5, 2), (7, 5)]) := Lib.hid (Sl.kept HS3.out HMG11.out)
  have HA46d : Hid (Sl (encS encI) TT w11 (.slice A46 n46 c46) [[1]]) := Lib.hid (Sl.kept HA46.out HMG11.out)
  have HBB46d : Hid (Sl encI TT w11 (.slice D46 m46 d46) [(-1)]) := Lib.hid (Sl.kept HBB46.out HMG11.out)
  have HM9d : Hid (Bk w11 w8.heap.size 47 #[.slice A46 n46 c46, .slice D46 m46 d46]) := Lib.hid (Bk.grown HM9.out HMG11.out (by simp))
  have HA52d : Hid (Sl (encS encI) TT w11 (.slice A52 n52 c52) []) := Lib.hid (Sl.kept HA52.out HMG11.out)
  have HBB52d : Hid (Sl encI TT w11 (.slice D52 m52 d52) []) := Lib.hid (Sl.kept HBB52.out HMG11.out)
  clear HB
  have HB := HBd
  clear HBd
  clear HG
  have HG := HGd
  clear HGd
  clear HS3
  have HS3 := HS3d
  clear HS3d
  clear HA46
  have HA46 := HA46d
  clear HA46d
  clear HBB46
  have HBB46 := HBB46d
  clear HBB46d
  clear HM9
  have HM9 := HM9d
  clear HM9d
  clear HA52
  have HA52 := HA52d
  clear HA52d
  clear HBB52
  have HBB52 := HBB52d
  clear HBB52d
  go_upto_region 8 with (fail)
  try rw [hww11]
  clear hww11
  refine wp_region_seqm 34 (by kernel_rfl) ?_
  -- op 0 (slot 54): move
  refine MonoR.step (Pv.eq (.int .i64 0)) [] (by kernel_rfl) (fun w' hw' => ?_) ?_
  · refine ask_do rfl fun K hK => ?_
    go_simp
    exact hK _ _ rfl rfl (World.grownBy.refl _ none)
  -- op 1 (slot 55): binOp
  refine MonoR.step (Pv.eq (.bool true)) [(0, 54)] (by kernel_rfl) (fun w' hw' => ?_) ?_
  · rintro _ rfl
    refine ask_do rfl fun K hK => ?_
    go_simp
    exact hK _ _ rfl rfl (World.grownBy.refl _ none)
  -- op 2 (slot 56): move
  refine MonoR.step (Pv.eq (.bool true)) [(1, 55)] (by kernel_rfl) (fun w' hw' => ?_) ?_
  · rintro _ rfl
    refine ask_do rfl fun K hK => ?_
    go_simp
    exact hK _ _ rfl rfl (World.grownBy.refl _ none)
  -- op 3 (slot 57): move
  refine MonoR.step (Pv.sl (encP) TT [(5, 2), (7, 5)]) [(2, 56)] (by kernel_rfl) (fun w' hw' => ?_) ?_
  · rintro _ rfl
    refine ask_do rfl fun K hK => ?_
    go_simp
    exact hK _ _ rfl (HS3.out.kept hw') (World.grownBy.refl _ none)
  -- op 4 (slot 58): build
  refine MonoR.step (Pv.eq (.agg #[.int .u64 5, .int .u64 2])) [(2, 56)] (by kernel_rfl) (fun w' hw' => ?_) ?_
  · rintro _ rfl
    refine ask_do rfl fun K hK => ?_
    go_simp
    exact hK _ _ rfl rfl (World.grownBy.refl _ none)
  -- op 5 (slot 59): build
  refine MonoR.step (Pv.eq (.agg #[.int .u64 7, .int .u64 5])) [(2, 56)] (by kernel_rfl) (fun w' hw' => ?_) ?_
  · rintro _ rfl
    refine ask_do rfl fun K hK => ?_
    go_simp
    exact hK _ _ rfl rfl (World.grownBy.refl _ none)
  -- op 6 (slot 60): buildSlice
  refine MonoR.step (Pv.sl (encP) TT [(5, 2), (7, 5)]) [(2, 56), (4, 58), (5, 59)] (by kernel_rfl) (fun w' hw' => ?_) ?_
  · rintro _ rfl
    rintro _ rfl
    rintro _ rfl
    refine ask_do rfl fun K hK => ?_
    go_simp
    exact hK _ _ rfl (Sl.build [[.int .u64 5, .int .u64 2], [.int .u64 7, .int .u64 5]] rfl ⟨⟨rfl, by decide, by decide⟩, ⟨rfl, by decide, by decide⟩, trivial⟩ rfl (by decide)) (World.grownBy_alloc w' _ none)
  -- op 7 (slot 61): call
  refine MonoR.step (Pv.eq (.bool true)) [(2, 56), (3, 57), (6, 60)] (by kernel_rfl) (fun w' hw' => ?_) ?_
  · rintro _ rfl
    intro x57 h57
    have h57 : Sl (encP) TT w' x57 [(5, 2), (7, 5)] := h57
    intro x60 h60
    have h60 : Sl (encP) TT w' x60 [(5, 2), (7, 5)] := h60
    refine ask_do rfl fun K hK => ?_
    go_simp
    refine (same_eq _ _ [(5, 2), (7, 5)] TT TT w' h57 h60).mono ?_
    rintro e w3 ⟨rfl, m3, rfl⟩
    exact hK _ _ rfl rfl (grown_drewN' w' m3)
  -- op 8 (slot 62): pick
  refine MonoR.step (Pv.eq (.bool true)) [(2, 56), (7, 61)] (by kernel_rfl) (fun w' hw' => ?_) ?_
  · rintro _ rfl
    rintro _ rfl
    refine ask_do rfl fun K hK => ?_
    go_simp
    exact hK _ _ rfl rfl (World.grownBy.refl _ none)
  -- op 9 (slot 63): move
  refine MonoR.step (Pv.eq (.bool true)) [(8, 62)] (by kernel_rfl) (fun w' hw' => ?_) ?_
  · rintro _ rfl
    refine ask_do rfl fun K hK => ?_
    go_simp
    exact hK _ _ rfl rfl (World.grownBy.refl _ none)
  -- op 10 (slot 64): move
  refine MonoR.step (Pv.eq (.int .i64 6)) [(9, 63)] (by kernel_rfl) (fun w' hw' => ?_) ?_
  · rintro _ rfl
    refine ask_do rfl fun K hK => ?_
    go_simp
    exact hK _ _ rfl rfl (World.grownBy.refl _ none)
  -- op 11 (slot 65): binOp
  refine MonoR.step (Pv.eq (.bool true)) [(9, 63), (10, 64)] (by kernel_rfl) (fun w' hw' => ?_) ?_
  · rintro _ rfl
    rintro _ rfl
    refine ask_do rfl fun K hK => ?_
    go_simp
    exact hK _ _ rfl rfl (World.grownBy.refl _ none)
  -- op 12 (slot 66): pick
  refine MonoR.step (Pv.eq (.bool true)) [(9, 63), (11, 65)] (by kernel_rfl) (fun w' hw' => ?_) ?_
  · rintro _ rfl
    rintro _ rfl
    refine ask_do rfl fun K hK => ?_
    go_simp
    exact hK _ _ rfl rfl (World.grownBy.refl _ none)
  -- op 13 (slot 67): move
  refine MonoR.step (Pv.eq (.bool true)) [(12, 66)] (by kernel_rfl) (fun w' hw' => ?_) ?_
  · rintro _ rfl
    refine ask_do rfl fun K hK => ?_
    go_simp
    exact hK _ _ rfl rfl (World.grownBy.refl _ none)
  -- op 14 (slot 68): move
  refine MonoR.step (Pv.eq (.int .i64 1)) [(13, 67)] (by kernel_rfl) (fun w' hw' => ?_) ?_
  · rintro _ rfl
    refine ask_do rfl fun K hK => ?_
    go_simp
    exact hK _ _ rfl rfl (World.grownBy.refl _ none)
  -- op 15 (slot 69): binOp
  refine MonoR.step (Pv.eq (.bool true)) [(13, 67), (14, 68)] (by kernel_rfl) (fun w' hw' => ?_) ?_
  · rintro _ rfl
    rintro _ rfl
    refine ask_do rfl fun K hK => ?_
    go_simp
    exact hK _ _ rfl rfl (World.grownBy.refl _ none)
  -- op 16 (slot 70): pick
  refine MonoR.step (Pv.eq (.bool true)) [(13, 67), (15, 69)] (by kernel_rfl) (fun w' hw' => ?_) ?_
  · rintro _ rfl
    rintro _ rfl
    refine ask_do rfl fun K hK => ?_
    go_simp
    exact hK _ _ rfl rfl (World.grownBy.refl _ none)
  -- op 17 (slot 71): move
  refine MonoR.step (Pv.eq (.bool true)) [(16, 70)] (by kernel_rfl) (fun w' hw' => ?_) ?_
  · rintro _ rfl
    refine ask_do rfl fun K hK => ?_
    go_simp
    exact hK _ _ rfl rfl (World.grownBy.refl _ none)
  -- op 18 (slot 72): move
  refine MonoR.step (Pv.eq (.int .i64 0)) [(17, 71)] (by kernel_rfl) (fun w' hw' => ?_) ?_
  · rintro _ rfl
    refine ask_do rfl fun K hK => ?_
    go_simp
    exact hK _ _ rfl rfl (World.grownBy.refl _ none)
  -- op 19 (slot 73): binOp
  refine MonoR.step (Pv.eq (.bool true)) [(17, 71), (18, 72)] (by kernel_rfl) (fun w' hw' => ?_) ?_
  · rintro _ rfl
    rintro _ rfl
    refine ask_do rfl fun K hK => ?_
    go_simp
    exact hK _ _ rfl rfl (World.grownBy.refl _ none)
  -- op 20 (slot 74): pick
  refine MonoR.step (Pv.eq (.bool true)) [(17, 71), (19, 73)] (by kernel_rfl) (fun w' hw' => ?_) ?_
  · rintro _ rfl
    rintro _ rfl
    refine ask_do rfl fun K hK => ?_
    go_simp
    exact hK _ _ rfl rfl (World.grownBy.refl _ none)
  -- op 21 (slot 75): move
  refine MonoR.step (Pv.eq (.bool true)) [(20, 74)] (by kernel_rfl) (fun w' hw' => ?_) ?_
  · rintro _ rfl
    refine ask_do rfl fun K hK => ?_
    go_simp
    exact hK _ _ rfl rfl (World.grownBy.refl _ none)
  -- op 22 (slot 76): load
  refine MonoR.step (Pv.model [[1]] [(-1)]) [(21, 75)] (by kernel_rfl) (fun w' hw' => ?_) ?_
  · rintro _ rfl
    refine ask_do rfl fun K hK => ?_
    have hm0 := (HM9.out.grown hw' (by simp)).cell 0
    have hm1 := (HM9.out.grown hw' (by simp)).cell 1
    simp at hm0 hm1
    go_simp
    exact hK _ _ rfl ⟨_, _, rfl, HA46.out.kept hw', HBB46.out.kept hw'⟩ (World.grownBy.refl _ none)
  -- op 23 (slot 77): buildSlice
  refine MonoR.step (Pv.sl (encI) TT [1]) [(21, 75)] (by kernel_rfl) (fun w' hw' => ?_) ?_
  · rintro _ rfl
    refine ask_do rfl fun K hK => ?_
    go_simp
    exact hK _ _ rfl (Sl.build [[.int .i64 1]] rfl ⟨⟨rfl, ⟨by decide, by decide⟩⟩, trivial⟩ rfl (by decide)) (World.grownBy_alloc w' _ none)
  -- op 24 (slot 78): buildSlice
  refine MonoR.step (Pv.sl (encS encI) TT [[1]]) [(21, 75), (23, 77)] (by kernel_rfl) (fun w' hw' => ?_) ?_
  · rintro _ rfl
    intro x77 h77
    have h77 : Sl (encI) TT w' x77 [1] := h77
    obtain ⟨A77, c77, e77, k77, l77⟩ := h77.form
    have e77 : x77 = .slice A77 1 c77 := e77
    subst e77
    refine ask_do rfl fun K hK => ?_
    go_simp
    exact hK _ _ rfl (Sl.build [[.slice A77 1 c77]] rfl ⟨⟨_, rfl, h77⟩, trivial⟩ rfl (by decide)) (World.grownBy_alloc w' _ none)
  -- op 25 (slot 79): buildSlice
  refine MonoR.step (Pv.sl (encI) TT [(-1)]) [(21, 75)] (by kernel_rfl) (fun w' hw' => ?_) ?_
  · rintro _ rfl
    refine ask_do rfl fun K hK => ?_
    go_simp
    exact hK _ _ rfl (Sl.build [[.int .i64 (-1)]] rfl ⟨⟨rfl, ⟨by decide, by decide⟩⟩, trivial⟩ rfl (by decide)) (World.grownBy_alloc w' _ none)
  -- op 26 (slot 80): build
  refine MonoR.step (Pv.model [[1]] [(-1)]) [(21, 75), (24, 78), (25, 79)] (by kernel_rfl) (fun w' hw' => ?_) ?_
  · rintro _ rfl
    intro x78 h78
    have h78 : Sl (encS encI) TT w' x78 [[1]] := h78
    obtain ⟨A78, c78, e78, k78, l78⟩ := h78.form
    have e78 : x78 = .slice A78 1 c78 := e78
    subst e78
    intro x79 h79
    have h79 : Sl (encI) TT w' x79 [(-1)] := h79
    obtain ⟨A79, c79, e79, k79, l79⟩ := h79.form
    have e79 : x79 = .slice A79 1 c79 := e79
    subst e79
    refine ask_do rfl fun K hK => ?_
    go_simp
    exact hK _ _ rfl ⟨_, _, rfl, h78, h79⟩ (World.grownBy.refl _ none)
  -- op 27 (slot 81): call
  refine MonoR.step (Pv.eq (.bool true)) [(21, 75), (22, 76), (26, 80)] (by kernel_rfl) (fun w' hw' => ?_) ?_
  · rintro _ rfl
    intro x76 q76
    obtain ⟨a76, b76, e76, h76, k76⟩ : ∃ a b, x76 = .agg #[a, b] ∧ Sl (encS encI) TT w' a [[1]] ∧ Sl encI TT w' b [(-1)] := q76
    subst e76
    intro x80 q80
    obtain ⟨a80, b80, e80, h80, k80⟩ : ∃ a b, x80 = .agg #[a, b] ∧ Sl (encS encI) TT w' a [[1]] ∧ Sl encI TT w' b [(-1)] := q80
    subst e80
    refine ask_do rfl fun K hK => ?_
    go_simp
    refine (models_eq _ _ _ _ [[1]] [(-1)] TT TT TT TT w' h76 k76 h80 k80).mono ?_
    rintro e w3 ⟨rfl, hg⟩
    exact hK _ _ rfl rfl hg
  -- op 28 (slot 82): pick
  refine MonoR.step (Pv.eq (.bool true)) [(21, 75), (27, 81)] (by kernel_rfl) (fun w' hw' => ?_) ?_
  · rintro _ rfl
    rintro _ rfl
    refine ask_do rfl fun K hK => ?_
    go_simp
    exact hK _ _ rfl rfl (World.grownBy.refl _ none)
  -- op 29 (slot 83): move
  refine MonoR.step (Pv.eq (.bool true)) [(28, 82)] (by kernel_rfl) (fun w' hw' => ?_) ?_
  · rintro _ rfl
    refine ask_do rfl fun K hK => ?_
    go_simp
    exact hK _ _ rfl rfl (World.grownBy.refl _ none)
  -- op 30 (slot 84): move
  refine MonoR.step (Pv.eq (.int .i64 20)) [(29, 83)] (by kernel_rfl) (fun w' hw' => ?_) ?_
  · rintro _ rfl
    refine ask_do rfl fun K hK => ?_
    go_simp
    exact hK _ _ rfl rfl (World.grownBy.refl _ none)
  -- op 31 (slot 85): binOp
  refine MonoR.step (Pv.eq (.bool true)) [(29, 83), (30, 84)] (by kernel_rfl) (fun w' hw' => ?_) ?_
  · rintro _ rfl
    rintro _ rfl
    refine ask_do rfl fun K hK => ?_
    go_simp
    exact hK _ _ rfl rfl (World.grownBy.refl _ none)
  -- op 32 (slot 86): pick
  refine MonoR.step (Pv.eq (.bool true)) [(29, 83), (31, 85)] (by kernel_rfl) (fun w' hw' => ?_) ?_
  · rintro _ rfl
    rintro _ rfl
    refine ask_do rfl fun K hK => ?_
    go_simp
    exact hK _ _ rfl rfl (World.grownBy.refl _ none)
  -- op 33 (slot 0): assign
  refine MonoR.step (Pv.eq (.bool true)) [(32, 86)] (by kernel_rfl) (fun w' hw' => ?_) ?_
  · rintro _ rfl
    refine ask_do rfl fun K hK => ?_
    go_simp
    exact hK _ _ rfl rfl (World.grownBy.refl _ none)
  intro w12 hww12
  intro _ _
  intro _ _
  intro _ _
  intro _ _
  intro _ _
  intro _ _
  intro _ _
  intro _ _
  intro _ _
  intro _ _
  intro _ _
  intro _ _
  intro _ _
  intro _ _
  intro _ _
  intro _ _
  intro _ _
  intro _ _
  intro _ _
  intro _ _
  intro _ _
  intro _ _
  intro _ _
  intro _ _
  intro _ _
  intro _ _
  intro _ _
  intro _ _
  intro _ _
  intro _ _
  intro _ _
  intro _ _
  intro _ _
  rintro _ rfl
  simp only [Act.put, List.setIfInBounds_toArray, List.set_cons_zero, List.set_cons_succ]
  have HBd : Hid (Bk w12 w2.heap.size 24 ps.cells) := Lib.hid (Bk.grown HB.out hww12 (by simp))
  have HGd : Hid (w.grownBy w12 none) := Lib.hid ((HG.out).trans hww12)
  have HS3d : Hid (Sl (encP) TT w12 v3 [(5, 2), (7, 5)]) := Lib.hid (Sl.kept HS3.out hww12)
  have HA46d : Hid (Sl (encS encI) TT w12 (.slice A46 n46 c46) [[1]]) := Lib.hid (Sl.kept HA46.out hww12)
  have HBB46d : Hid (Sl encI TT w12 (.slice D46 m46 d46) [(-1)]) := Lib.hid (Sl.kept HBB46.out hww12)
  have HM9d : Hid (Bk w12 w8.heap.size 47 #[.slice A46 n46 c46, .slice D46 m46 d46]) := Lib.hid (Bk.grown HM9.out hww12 (by simp))
  have HA52d : Hid (Sl (encS encI) TT w12 (.slice A52 n52 c52) []) := Lib.hid (Sl.kept HA52.out hww12)
  have HBB52d : Hid (Sl encI TT w12 (.slice D52 m52 d52) []) := Lib.hid (Sl.kept HBB52.out hww12)
  clear HB
  have HB := HBd
  clear HBd
  clear HG
  have HG := HGd
  clear HGd
  clear HS3
  have HS3 := HS3d
  clear HS3d
  clear HA46
  have HA46 := HA46d
  clear HA46d
  clear HBB46
  have HBB46 := HBB46d
  clear HBB46d
  clear HM9
  have HM9 := HM9d
  clear HM9d
  clear HA52
  have HA52 := HA52d
  clear HA52d
  clear HBB52
  have HBB52 := HBB52d
  clear HBB52d
  clear hww12
  refine wpList_nil ?_
  go_wp2
  go_ret
  exact ⟨rfl, HG.out⟩
end Go.Proofs.Ytmjdpmfcbeaecaa

namespace Go.Proofs.Ytmjdpmfcbeaecaa
open Go Go.RowKit

abbrev podd : Par := ⟨23, 11, 4, 9, 4, 4, 1, 3, 1, 1, 1, 1⟩
theorem podd_ok : podd.ok := ⟨⟨by decide, by decide⟩, ⟨by decide, by decide⟩, ⟨by decide, by decide⟩, ⟨by decide, by decide⟩, ⟨by decide, by decide⟩, ⟨by decide, by decide⟩, ⟨by decide, by decide⟩, ⟨by decide, by decide⟩, ⟨by decide, by decide⟩, ⟨by decide, by decide⟩, ⟨by decide, by decide⟩, ⟨by decide, by decide⟩⟩
abbrev pflat : Par := ⟨23, 0, 4, 9, 4, 4, 1, 1, 1, 1, 1, 1⟩
theorem pflat_ok : pflat.ok := ⟨⟨by decide, by decide⟩, ⟨by decide, by decide⟩, ⟨by decide, by decide⟩, ⟨by decide, by decide⟩, ⟨by decide, by decide⟩, ⟨by decide, by decide⟩, ⟨by decide, by decide⟩, ⟨by decide, by decide⟩, ⟨by decide, by decide⟩, ⟨by decide, by decide⟩, ⟨by decide, by decide⟩, ⟨by decide, by decide⟩⟩
abbrev pfew : Par := ⟨23, 5, 4, 9, 4, 4, 1, 1, 1, 1, 1, 1⟩
theorem pfew_ok : pfew.ok := ⟨⟨by decide, by decide⟩, ⟨by decide, by decide⟩, ⟨by decide, by decide⟩, ⟨by decide, by decide⟩, ⟨by decide, by decide⟩, ⟨by decide, by decide⟩, ⟨by decide, by decide⟩, ⟨by decide, by decide⟩, ⟨by decide, by decide⟩, ⟨by decide, by decide⟩, ⟨by decide, by decide⟩, ⟨by decide, by decide⟩⟩
set_option maxRecDepth 100000 in
set_option maxHeartbeats 8000000 in
theorem snames_any (w : World) : Calls Try.prog 3 #[] w fun e w' => e = .returned (.bool true) ∧ w.grownBy w' none := by
  go_enter Try.func3, Try.ntmps3
  go_wp2_with fail
  refine (small20_any w).mono ?_
  rintro e w2 ⟨rfl, hg⟩
  have HB : Hid (Bk (w2.alloc (.cells ps.cells 24)) w2.heap.size 24 ps.cells) := Lib.hid (Bk.new w2 _ _)
  have HG : Hid (w.grownBy (w2.alloc (.cells ps.cells 24)) none) := Lib.hid (hg.trans (World.grownBy_alloc _ _ none))
  clear hg
  go_upto_region 2 with (fail)
  obtain ⟨w3, hw3⟩ : ∃ w3, w2.alloc (.cells ps.cells 24) = w3 := ⟨_, rfl⟩
  rw [hw3] at HB HG ⊢
  clear hw3
  refine wp_region_seqm 12 (by kernel_rfl) ?_
  -- op 0 (slot 43): call
  refine MonoR.step (Pv.eq (.bool true)) [] (by kernel_rfl) (fun w' hw' => ?_) ?_
  · refine ask_do rfl fun K hK => ?_
    go_simp
    refine (works20_any w').mono ?_
    rintro e w3 ⟨rfl, hg⟩
    exact hK _ _ rfl rfl hg
  -- op 1 (slot 44): unOp
  refine MonoR.step (Pv.eq (.bool false)) [(0, 43)] (by kernel_rfl) (fun w' hw' => ?_) ?_
  · rintro _ rfl
    refine ask_do rfl fun K hK => ?_
    go_simp
    exact hK _ _ rfl rfl (World.grownBy.refl _ none)
  -- op 2 (slot 45): move
  refine MonoR.step (Pv.eq (.bool false)) [(1, 44)] (by kernel_rfl) (fun w' hw' => ?_) ?_
  · rintro _ rfl
    refine ask_do rfl fun K hK => ?_
    go_simp
    exact hK _ _ rfl rfl (World.grownBy.refl _ none)
  -- op 3 (slot 46): pick
  refine MonoR.step (Pv.eq (.bool false)) [(2, 45)] (by kernel_rfl) (fun w' hw' => ?_) ?_
  · rintro _ rfl
    refine ask_do rfl fun K hK => ?_
    go_simp
    exact hK _ _ rfl rfl (World.grownBy.refl _ none)
  -- op 4 (slot 47): move
  refine MonoR.step (Pv.eq (.bool false)) [(3, 46)] (by kernel_rfl) (fun w' hw' => ?_) ?_
  · rintro _ rfl
    refine ask_do rfl fun K hK => ?_
    go_simp
    exact hK _ _ rfl rfl (World.grownBy.refl _ none)
  -- op 5 (slot 48): pick
  refine MonoR.step (Pv.eq (.bool false)) [(4, 47)] (by kernel_rfl) (fun w' hw' => ?_) ?_
  · rintro _ rfl
    refine ask_do rfl fun K hK => ?_
    go_simp
    exact hK _ _ rfl rfl (World.grownBy.refl _ none)
  -- op 6 (slot 49): move
  refine MonoR.step (Pv.eq (.bool false)) [(5, 48)] (by kernel_rfl) (fun w' hw' => ?_) ?_
  · rintro _ rfl
    refine ask_do rfl fun K hK => ?_
    go_simp
    exact hK _ _ rfl rfl (World.grownBy.refl _ none)
  -- op 7 (slot 50): pick
  refine MonoR.step (Pv.eq (.bool false)) [(6, 49)] (by kernel_rfl) (fun w' hw' => ?_) ?_
  · rintro _ rfl
    refine ask_do rfl fun K hK => ?_
    go_simp
    exact hK _ _ rfl rfl (World.grownBy.refl _ none)
  -- op 8 (slot 51): move
  refine MonoR.step (Pv.eq (.bool false)) [(7, 50)] (by kernel_rfl) (fun w' hw' => ?_) ?_
  · rintro _ rfl
    refine ask_do rfl fun K hK => ?_
    go_simp
    exact hK _ _ rfl rfl (World.grownBy.refl _ none)
  -- op 9 (slot 52): pick
  refine MonoR.step (Pv.eq (.bool false)) [(8, 51)] (by kernel_rfl) (fun w' hw' => ?_) ?_
  · rintro _ rfl
    refine ask_do rfl fun K hK => ?_
    go_simp
    exact hK _ _ rfl rfl (World.grownBy.refl _ none)
  -- op 10 (slot 53): move
  refine MonoR.step (Pv.eq (.bool false)) [(9, 52)] (by kernel_rfl) (fun w' hw' => ?_) ?_
  · rintro _ rfl
    refine ask_do rfl fun K hK => ?_
    go_simp
    exact hK _ _ rfl rfl (World.grownBy.refl _ none)
  -- op 11 (slot 54): pick
  refine MonoR.step (Pv.eq (.bool false)) [(10, 53)] (by kernel_rfl) (fun w' hw' => ?_) ?_
  · rintro _ rfl
    refine ask_do rfl fun K hK => ?_
    go_simp
    exact hK _ _ rfl rfl (World.grownBy.refl _ none)
  intro w4 hww4
  intro _ _
  intro _ _
  intro _ _
  intro _ _
  intro _ _
  intro _ _
  intro _ _
  intro _ _
  intro _ _
  intro _ _
  intro _ _
  rintro _ rfl
  simp only [Act.put, List.setIfInBounds_toArray, List.set_cons_zero, List.set_cons_succ]
  have HBd : Hid (Bk w4 w2.heap.size 24 ps.cells) := Lib.hid (Bk.grown HB.out hww4 (by simp))
  have HGd : Hid (w.grownBy w4 none) := Lib.hid ((HG.out).trans hww4)
  clear HB
  have HB := HBd
  clear HBd
  clear HG
  have HG := HGd
  clear HGd
  clear hww4
  refine wpList_nil ?_
  go_upto_region 4 with (fail)
  refine wp_region_seqm 10 (by kernel_rfl) ?_
  -- op 0 (slot 55): buildSlice
  refine MonoR.step (Pv.sl (encU) TT [4, 1]) [] (by kernel_rfl) (fun w' hw' => ?_) ?_
  · refine ask_do rfl fun K hK => ?_
    go_simp
    exact hK _ _ rfl (Sl.build [[.int .u64 4], [.int .u64 1]] rfl ⟨⟨rfl, ⟨by decide, by decide⟩⟩, ⟨rfl, ⟨by decide, by decide⟩⟩, trivial⟩ rfl (by decide)) (World.grownBy_alloc w' _ none)
  -- op 1 (slot 56): buildSlice
  refine MonoR.step (Pv.sl (encU) TT [1, 4]) [] (by kernel_rfl) (fun w' hw' => ?_) ?_
  · refine ask_do rfl fun K hK => ?_
    go_simp
    exact hK _ _ rfl (Sl.build [[.int .u64 1], [.int .u64 4]] rfl ⟨⟨rfl, ⟨by decide, by decide⟩⟩, ⟨rfl, ⟨by decide, by decide⟩⟩, trivial⟩ rfl (by decide)) (World.grownBy_alloc w' _ none)
  -- op 2 (slot 57): buildSlice
  refine MonoR.step (Pv.sl (encS encU) TT [[4, 1], [1, 4]]) [(0, 55), (1, 56)] (by kernel_rfl) (fun w' hw' => ?_) ?_
  · intro x55 h55
    have h55 : Sl (encU) TT w' x55 [4, 1] := h55
    obtain ⟨A55, c55, e55, k55, l55⟩ := h55.form
    have e55 : x55 = .slice A55 2 c55 := e55
    subst e55
    intro x56 h56
    have h56 : Sl (encU) TT w' x56 [1, 4] := h56
    obtain ⟨A56, c56, e56, k56, l56⟩ := h56.form
    have e56 : x56 = .slice A56 2 c56 := e56
    subst e56
    refine ask_do rfl fun K hK => ?_
    go_simp
    exact hK _ _ rfl (Sl.build [[.slice A55 2 c55], [.slice A56 2 c56]] rfl ⟨⟨_, rfl, h55⟩, ⟨_, rfl, h56⟩, trivial⟩ rfl (by decide)) (World.grownBy_alloc w' _ none)
  -- op 3 (slot 58): build
  refine MonoR.step (Pv.dealt 1 [[4, 1], [1, 4]]) [(2, 57)] (by kernel_rfl) (fun w' hw' => ?_) ?_
  · intro x57 h57
    have h57 : Sl (encS encU) TT w' x57 [[4, 1], [1, 4]] := h57
    obtain ⟨A57, c57, e57, k57, l57⟩ := h57.form
    have e57 : x57 = .slice A57 2 c57 := e57
    subst e57
    refine ask_do rfl fun K hK => ?_
    go_simp
    exact hK _ _ rfl ⟨_, rfl, h57⟩ (World.grownBy.refl _ none)
  -- op 4 (slot 59): buildSlice
  refine MonoR.step (Pv.sl (encU) TT [9, 1]) [] (by kernel_rfl) (fun w' hw' => ?_) ?_
  · refine ask_do rfl fun K hK => ?_
    go_simp
    exact hK _ _ rfl (Sl.build [[.int .u64 9], [.int .u64 1]] rfl ⟨⟨rfl, ⟨by decide, by decide⟩⟩, ⟨rfl, ⟨by decide, by decide⟩⟩, trivial⟩ rfl (by decide)) (World.grownBy_alloc w' _ none)
  -- op 5 (slot 60): buildSlice
  refine MonoR.step (Pv.sl (encU) TT [1, 1]) [] (by kernel_rfl) (fun w' hw' => ?_) ?_
  · refine ask_do rfl fun K hK => ?_
    go_simp
    exact hK _ _ rfl (Sl.build [[.int .u64 1], [.int .u64 1]] rfl ⟨⟨rfl, ⟨by decide, by decide⟩⟩, ⟨rfl, ⟨by decide, by decide⟩⟩, trivial⟩ rfl (by decide)) (World.grownBy_alloc w' _ none)
  -- op 6 (slot 61): buildSlice
  refine MonoR.step (Pv.sl (encS encU) TT [[9, 1], [1, 1]]) [(4, 59), (5, 60)] (by kernel_rfl) (fun w' hw' => ?_) ?_
  · intro x59 h59
    have h59 : Sl (encU) TT w' x59 [9, 1] := h59
    obtain ⟨A59, c59, e59, k59, l59⟩ := h59.form
    have e59 : x59 = .slice A59 2 c59 := e59
    subst e59
    intro x60 h60
    have h60 : Sl (encU) TT w' x60 [1, 1] := h60
    obtain ⟨A60, c60, e60, k60, l60⟩ := h60.form
    have e60 : x60 = .slice A60 2 c60 := e60
    subst e60
    refine ask_do rfl fun K hK => ?_
    go_simp
    exact hK _ _ rfl (Sl.build [[.slice A59 2 c59], [.slice A60 2 c60]] rfl ⟨⟨_, rfl, h59⟩, ⟨_, rfl, h60⟩, trivial⟩ rfl (by decide)) (World.grownBy_alloc w' _ none)
  -- op 7 (slot 62): build
  refine MonoR.step (Pv.dealt 2 [[9, 1], [1, 1]]) [(6, 61)] (by kernel_rfl) (fun w' hw' => ?_) ?_
  · intro x61 h61
    have h61 : Sl (encS encU) TT w' x61 [[9, 1], [1, 1]] := h61
    obtain ⟨A61, c61, e61, k61, l61⟩ := h61.form
    have e61 : x61 = .slice A61 2 c61 := e61
    subst e61
    refine ask_do rfl fun K hK => ?_
    go_simp
    exact hK _ _ rfl ⟨_, rfl, h61⟩ (World.grownBy.refl _ none)
  -- op 8 (slot 63): buildSlice
  refine MonoR.step (Pv.sl (encD) TT [(1, [[4, 1], [1, 4]]), (2, [[9, 1], [1, 1]])]) [(3, 58), (7, 62)] (by kernel_rfl) (fun w' hw' => ?_) ?_
  · intro x58 q58
    obtain ⟨u58, e58, h58⟩ : ∃ u, x58 = .agg #[.int .i64 1, u] ∧ Sl (encS encU) TT w' u [[4, 1], [1, 4]] := q58
    subst e58
    obtain ⟨A58, c58, e58, k58, l58⟩ := h58.form
    have e58 : u58 = .slice A58 2 c58 := e58
    subst e58
    intro x62 q62
    obtain ⟨u62, e62, h62⟩ : ∃ u, x62 = .agg #[.int .i64 2, u] ∧ Sl (encS encU) TT w' u [[9, 1], [1, 1]] := q62
    subst e62
    obtain ⟨A62, c62, e62, k62, l62⟩ := h62.form
    have e62 : u62 = .slice A62 2 c62 := e62
    subst e62
    refine ask_do rfl fun K hK => ?_
    go_simp
    exact hK _ _ rfl (Sl.build [[.int .i64 1, .slice A58 2 c58], [.int .i64 2, .slice A62 2 c62]] rfl ⟨⟨_, rfl, ⟨by decide, by decide⟩, h58⟩, ⟨_, rfl, ⟨by decide, by decide⟩, h62⟩, trivial⟩ rfl (by decide)) (World.grownBy_alloc w' _ none)
  -- op 9 (slot 2): assign
  refine MonoR.step (Pv.sl (encD) TT [(1, [[4, 1], [1, 4]]), (2, [[9, 1], [1, 1]])]) [(8, 63)] (by kernel_rfl) (fun w' hw' => ?_) ?_
  · intro x63 h63
    have h63 : Sl (encD) TT w' x63 [(1, [[4, 1], [1, 4]]), (2, [[9, 1], [1, 1]])] := h63
    refine ask_do rfl fun K hK => ?_
    go_simp
    exact hK _ _ rfl h63 (World.grownBy.refl _ none)
  intro w5 hww5
  intro _ _
  intro _ _
  intro _ _
  intro _ _
  intro _ _
  intro _ _
  intro _ _
  intro _ _
  intro _ _
  intro v2 h2'
  simp only [Act.put, List.setIfInBounds_toArray, List.set_cons_zero, List.set_cons_succ]
  have HBd : Hid (Bk w5 w2.heap.size 24 ps.cells) := Lib.hid (Bk.grown HB.out hww5 (by simp))
  have HGd : Hid (w.grownBy w5 none) := Lib.hid ((HG.out).trans hww5)
  clear HB
  have HB := HBd
  clear HBd
  clear HG
  have HG := HGd
  clear HGd
  have HS2 : Hid (Sl (encD) TT w5 v2 [(1, [[4, 1], [1, 4]]), (2, [[9, 1], [1, 1]])]) := Lib.hid h2'
  clear h2'
  clear hww5
  refine wpList_nil ?_
  go_upto_region 5 with (fail)
  refine wp_region_seqm 8 (by kernel_rfl) ?_
  -- op 0 (slot 65): load
  refine MonoR.step (Pv.eq (ps.v)) [] (by kernel_rfl) (fun w' hw' => ?_) ?_
  · refine ask_do rfl fun K hK => ?_
    have hp := (HB.out.grown hw' (by simp)).prule
    go_simp
    exact hK _ _ rfl rfl (World.grownBy.refl _ none)
  -- op 1 (slot 66): move
  refine MonoR.step (Pv.sl (encD) TT [(1, [[4, 1], [1, 4]]), (2, [[9, 1], [1, 1]])]) [] (by kernel_rfl) (fun w' hw' => ?_) ?_
  · refine ask_do rfl fun K hK => ?_
    go_simp
    exact hK _ _ rfl (HS2.out.kept hw') (World.grownBy.refl _ none)
  -- op 2 (slot 67): call
  refine MonoR.step (Pv.tup (encS encU) [[12, 1], [1, 16]] 0) [(0, 65), (1, 66)] (by kernel_rfl) (fun w' hw' => ?_) ?_
  · rintro _ rfl
    intro x66 h66
    have h66 : Sl (encD) TT w' x66 [(1, [[4, 1], [1, 4]]), (2, [[9, 1], [1, 1]])] := h66
    refine ask_do rfl fun K hK => ?_
    go_simp
    refine (scoms_any ps _ [(1, [[4, 1], [1, 4]]), (2, [[9, 1], [1, 1]])] TT w' ps_ok h66 (by decide) (by decide)).mono ?_
    rintro e w3 ⟨v3, he, h3, hg⟩
    rw [(show comsE ps [(1, [[4, 1], [1, 4]]), (2, [[9, 1], [1, 1]])] = 0 by rw [comsE_eq]; decide +kernel)] at he
    rw [(show comsL ps [(1, [[4, 1], [1, 4]]), (2, [[9, 1], [1, 1]])] = [[12, 1], [1, 16]] by rw [comsL_eq]; decide +kernel)] at h3
    subst he
    exact hK _ _ rfl ⟨_, rfl, h3.more (fun _ _ _ => trivial)⟩ hg
  -- op 3 (slot 64): move
  refine MonoR.step (Pv.tup (encS encU) [[12, 1], [1, 16]] 0) [(2, 67)] (by kernel_rfl) (fun w' hw' => ?_) ?_
  · intro x67 q67
    obtain ⟨u67, e67, h67⟩ : ∃ u, x67 = .tuple #[u, .int .i64 0] ∧ Sl (encS encU) TT w' u [[12, 1], [1, 16]] := q67
    subst e67
    refine ask_do rfl fun K hK => ?_
    go_simp
    exact hK _ _ rfl ⟨_, rfl, h67⟩ (World.grownBy.refl _ none)
  -- op 4 (slot 68): extract
  refine MonoR.step (Pv.sl (encS encU) TT [[12, 1], [1, 16]]) [(3, 64)] (by kernel_rfl) (fun w' hw' => ?_) ?_
  · intro x64 q64
    obtain ⟨u64, e64, h64⟩ : ∃ u, x64 = .tuple #[u, .int .i64 0] ∧ Sl (encS encU) TT w' u [[12, 1], [1, 16]] := q64
    subst e64
    refine ask_do rfl fun K hK => ?_
    go_simp
    exact hK _ _ rfl h64 (World.grownBy.refl _ none)
  -- op 5 (slot 69): extract
  refine MonoR.step (Pv.eq (.int .i64 0)) [(3, 64)] (by kernel_rfl) (fun w' hw' => ?_) ?_
  · intro x64 q64
    obtain ⟨u64, e64, h64⟩ : ∃ u, x64 = .tuple #[u, .int .i64 0] ∧ Sl (encS encU) TT w' u [[12, 1], [1, 16]] := q64
    subst e64
    refine ask_do rfl fun K hK => ?_
    go_simp
    exact hK _ _ rfl rfl (World.grownBy.refl _ none)
  -- op 6 (slot 3): assign
  refine MonoR.step (Pv.sl (encS encU) TT [[12, 1], [1, 16]]) [(4, 68)] (by kernel_rfl) (fun w' hw' => ?_) ?_
  · intro x68 h68
    have h68 : Sl (encS encU) TT w' x68 [[12, 1], [1, 16]] := h68
    refine ask_do rfl fun K hK => ?_
    go_simp
    exact hK _ _ rfl h68 (World.grownBy.refl _ none)
  -- op 7 (slot 4): assign
  refine MonoR.step (Pv.eq (.int .i64 0)) [(5, 69)] (by kernel_rfl) (fun w' hw' => ?_) ?_
  · rintro _ rfl
    refine ask_do rfl fun K hK => ?_
    go_simp
    exact hK _ _ rfl rfl (World.grownBy.refl _ none)
  intro w6 hww6
  intro _ _
  intro _ _
  intro _ _
  intro _ _
  intro _ _
  intro _ _
  intro v3 h3'
  rintro _ rfl
  simp only [Act.put, List.setIfInBounds_toArray, List.set_cons_zero, List.set_cons_succ]
  have HBd : Hid (Bk w6 w2.heap.size 24 ps.cells) := Lib.hid (Bk.grown HB.out hww6 (by simp))
  have HGd : Hid (w.grownBy w6 none) := Lib.hid ((HG.out).trans hww6)
  have HS2d : Hid (Sl (encD) TT w6 v2 [(1, [[4, 1], [1, 4]]), (2, [[9, 1], [1, 1]])]) := Lib.hid (Sl.kept HS2.out hww6)
  clear HB
  have HB := HBd
  clear HBd
  clear HG
  have HG := HGd
  clear HGd
  clear HS2
  have HS2 := HS2d
  clear HS2d
  have HS3 : Hid (Sl (encS encU) TT w6 v3 [[12, 1], [1, 16]]) := Lib.hid h3'
  clear h3'
  clear hww6
  refine wpList_nil ?_
  go_upto_region 6 with (fail)
  refine wp_region_seqm 10 (by kernel_rfl) ?_
  -- op 0 (slot 70): move
  refine MonoR.step (Pv.eq (.int .i64 0)) [] (by kernel_rfl) (fun w' hw' => ?_) ?_
  · refine ask_do rfl fun K hK => ?_
    go_simp
    exact hK _ _ rfl rfl (World.grownBy.refl _ none)
  -- op 1 (slot 71): binOp
  refine MonoR.step (Pv.eq (.bool false)) [(0, 70)] (by kernel_rfl) (fun w' hw' => ?_) ?_
  · rintro _ rfl
    refine ask_do rfl fun K hK => ?_
    go_simp
    exact hK _ _ rfl rfl (World.grownBy.refl _ none)
  -- op 2 (slot 72): move
  refine MonoR.step (Pv.eq (.bool false)) [(1, 71)] (by kernel_rfl) (fun w' hw' => ?_) ?_
  · rintro _ rfl
    refine ask_do rfl fun K hK => ?_
    go_simp
    exact hK _ _ rfl rfl (World.grownBy.refl _ none)
  -- op 3 (slot 73): move
  refine MonoR.step (Pv.sl (encS encU) TT [[12, 1], [1, 16]]) [(2, 72)] (by kernel_rfl) (fun w' hw' => ?_) ?_
  · rintro _ rfl
    refine ask_do rfl fun K hK => ?_
    go_simp
    exact hK _ _ rfl (HS3.out.kept hw') (World.grownBy.refl _ none)
  -- op 4 (slot 74): buildSlice
  refine MonoR.step (Pv.sl (encU) TT [12, 1]) [(2, 72)] (by kernel_rfl) (fun w' hw' => ?_) ?_
  · rintro _ rfl
    refine ask_do rfl fun K hK => ?_
    go_simp
    exact hK _ _ rfl (Sl.build [[.int .u64 12], [.int .u64 1]] rfl ⟨⟨rfl, ⟨by decide, by decide⟩⟩, ⟨rfl, ⟨by decide, by decide⟩⟩, trivial⟩ rfl (by decide)) (World.grownBy_alloc w' _ none)
  -- op 5 (slot 75): buildSlice
  refine MonoR.step (Pv.sl (encU) TT [1, 16]) [(2, 72)] (by kernel_rfl) (fun w' hw' => ?_) ?_
  · rintro _ rfl
    refine ask_do rfl fun K hK => ?_
    go_simp
    exact hK _ _ rfl (Sl.build [[.int .u64 1], [.int .u64 16]] rfl ⟨⟨rfl, ⟨by decide, by decide⟩⟩, ⟨rfl, ⟨by decide, by decide⟩⟩, trivial⟩ rfl (by decide)) (World.grownBy_alloc w' _ none)
  -- op 6 (slot 76): buildSlice
  refine MonoR.step (Pv.sl (encS encU) TT [[12, 1], [1, 16]]) [(2, 72), (4, 74), (5, 75)] (by kernel_rfl) (fun w' hw' => ?_) ?_
  · rintro _ rfl
    intro x74 h74
    have h74 : Sl (encU) TT w' x74 [12, 1] := h74
    obtain ⟨A74, c74, e74, k74, l74⟩ := h74.form
    have e74 : x74 = .slice A74 2 c74 := e74
    subst e74
    intro x75 h75
    have h75 : Sl (encU) TT w' x75 [1, 16] := h75
    obtain ⟨A75, c75, e75, k75, l75⟩ := h75.form
    have e75 : x75 = .slice A75 2 c75 := e75
    subst e75
    refine ask_do rfl fun K hK => ?_
    go_simp
    exact hK _ _ rfl (Sl.build [[.slice A74 2 c74], [.slice A75 2 c75]] rfl ⟨⟨_, rfl, h74⟩, ⟨_, rfl, h75⟩, trivial⟩ rfl (by decide)) (World.grownBy_alloc w' _ none)
  -- op 7 (slot 77): call
  refine MonoR.step (Pv.eq (.bool true)) [(2, 72), (3, 73), (6, 76)] (by kernel_rfl) (fun w' hw' => ?_) ?_
  · rintro _ rfl
    intro x73 h73
    have h73 : Sl (encS encU) TT w' x73 [[12, 1], [1, 16]] := h73
    intro x76 h76
    have h76 : Sl (encS encU) TT w' x76 [[12, 1], [1, 16]] := h76
    refine ask_do rfl fun K hK => ?_
    go_simp
    refine (lists_eq _ _ [[12, 1], [1, 16]] TT TT w' h73 h76).mono ?_
    rintro e w3 ⟨rfl, m3, rfl⟩
    exact hK _ _ rfl rfl (grown_drewN' w' m3)
  -- op 8 (slot 78): unOp
  refine MonoR.step (Pv.eq (.bool false)) [(2, 72), (7, 77)] (by kernel_rfl) (fun w' hw' => ?_) ?_
  · rintro _ rfl
    rintro _ rfl
    refine ask_do rfl fun K hK => ?_
    go_simp
    exact hK _ _ rfl rfl (World.grownBy.refl _ none)
  -- op 9 (slot 79): pick
  refine MonoR.step (Pv.eq (.bool false)) [(2, 72), (8, 78)] (by kernel_rfl) (fun w' hw' => ?_) ?_
  · rintro _ rfl
    rintro _ rfl
    refine ask_do rfl fun K hK => ?_
    go_simp
    exact hK _ _ rfl rfl (World.grownBy.refl _ none)
  intro w7 hww7
  intro _ _
  intro _ _
  intro _ _
  intro _ _
  intro _ _
  intro _ _
  intro _ _
  intro _ _
  intro _ _
  rintro _ rfl
  simp only [Act.put, List.setIfInBounds_toArray, List.set_cons_zero, List.set_cons_succ]
  have HBd : Hid (Bk w7 w2.heap.size 24 ps.cells) := Lib.hid (Bk.grown HB.out hww7 (by simp))
  have HGd : Hid (w.grownBy w7 none) := Lib.hid ((HG.out).trans hww7)
  have HS2d : Hid (Sl (encD) TT w7 v2 [(1, [[4, 1], [1, 4]]), (2, [[9, 1], [1, 1]])]) := Lib.hid (Sl.kept HS2.out hww7)
  have HS3d : Hid (Sl (encS encU) TT w7 v3 [[12, 1], [1, 16]]) := Lib.hid (Sl.kept HS3.out hww7)
  clear HB
  have HB := HBd
  clear HBd
  clear HG
  have HG := HGd
  clear HGd
  clear HS2
  have HS2 := HS2d
  clear HS2d
  clear HS3
  have HS3 := HS3d
  clear HS3d
  clear hww7
  refine wpList_nil ?_
  clear HS3
  go_upto_region 8 with (fail)
  refine wp_region_seqm 4 (by kernel_rfl) ?_
  -- op 0 (slot 80): build
  refine MonoR.step (Pv.eq (.agg #[.int .u64 12, .int .u64 3])) [] (by kernel_rfl) (fun w' hw' => ?_) ?_
  · refine ask_do rfl fun K hK => ?_
    go_simp
    exact hK _ _ rfl rfl (World.grownBy.refl _ none)
  -- op 1 (slot 81): build
  refine MonoR.step (Pv.eq (.agg #[.int .u64 0, .int .u64 0])) [] (by kernel_rfl) (fun w' hw' => ?_) ?_
  · refine ask_do rfl fun K hK => ?_
    go_simp
    exact hK _ _ rfl rfl (World.grownBy.refl _ none)
  -- op 2 (slot 82): buildSlice
  refine MonoR.step (Pv.sl (encP) TT [(12, 3), (0, 0)]) [(0, 80), (1, 81)] (by kernel_rfl) (fun w' hw' => ?_) ?_
  · rintro _ rfl
    rintro _ rfl
    refine ask_do rfl fun K hK => ?_
    go_simp
    exact hK _ _ rfl (Sl.build [[.int .u64 12, .int .u64 3], [.int .u64 0, .int .u64 0]] rfl ⟨⟨rfl, by decide, by decide⟩, ⟨rfl, by decide, by decide⟩, trivial⟩ rfl (by decide)) (World.grownBy_alloc w' _ none)
  -- op 3 (slot 5): assign
  refine MonoR.step (Pv.sl (encP) TT [(12, 3), (0, 0)]) [(2, 82)] (by kernel_rfl) (fun w' hw' => ?_) ?_
  · intro x82 h82
    have h82 : Sl (encP) TT w' x82 [(12, 3), (0, 0)] := h82
    refine ask_do rfl fun K hK => ?_
    go_simp
    exact hK _ _ rfl h82 (World.grownBy.refl _ none)
  intro w8 hww8
  intro _ _
  intro _ _
  intro _ _
  intro v5 h5'
  simp only [Act.put, List.setIfInBounds_toArray, List.set_cons_zero, List.set_cons_succ]
  have HBd : Hid (Bk w8 w2.heap.size 24 ps.cells) := Lib.hid (Bk.grown HB.out hww8 (by simp))
  have HGd : Hid (w.grownBy w8 none) := Lib.hid ((HG.out).trans hww8)
  have HS2d : Hid (Sl (encD) TT w8 v2 [(1, [[4, 1], [1, 4]]), (2, [[9, 1], [1, 1]])]) := Lib.hid (Sl.kept HS2.out hww8)
  clear HB
  have HB := HBd
  clear HBd
  clear HG
  have HG := HGd
  clear HGd
  clear HS2
  have HS2 := HS2d
  clear HS2d
  have HS5 : Hid (Sl (encP) TT w8 v5 [(12, 3), (0, 0)]) := Lib.hid h5'
  clear h5'
  clear hww8
  refine wpList_nil ?_
  go_upto_region 9 with (fail)
  refine wp_region_seqm 10 (by kernel_rfl) ?_
  -- op 0 (slot 84): load
  refine MonoR.step (Pv.eq (ps.v)) [] (by kernel_rfl) (fun w' hw' => ?_) ?_
  · refine ask_do rfl fun K hK => ?_
    have hp := (HB.out.grown hw' (by simp)).prule
    go_simp
    exact hK _ _ rfl rfl (World.grownBy.refl _ none)
  -- op 1 (slot 85): buildSlice
  refine MonoR.step (Pv.sl (encI) TT [7]) [] (by kernel_rfl) (fun w' hw' => ?_) ?_
  · refine ask_do rfl fun K hK => ?_
    go_simp
    exact hK _ _ rfl (Sl.build [[.int .i64 7]] rfl ⟨⟨rfl, ⟨by decide, by decide⟩⟩, trivial⟩ rfl (by decide)) (World.grownBy_alloc w' _ none)
  -- op 2 (slot 86): move
  refine MonoR.step (Pv.sl (encP) TT [(12, 3), (0, 0)]) [] (by kernel_rfl) (fun w' hw' => ?_) ?_
  · refine ask_do rfl fun K hK => ?_
    go_simp
    exact hK _ _ rfl (HS5.out.kept hw') (World.grownBy.refl _ none)
  -- op 3 (slot 87): buildSlice
  refine MonoR.step (Pv.sl (encS encP) TT [[(12, 3), (0, 0)]]) [(2, 86)] (by kernel_rfl) (fun w' hw' => ?_) ?_
  · intro x86 h86
    have h86 : Sl (encP) TT w' x86 [(12, 3), (0, 0)] := h86
    obtain ⟨A86, c86, e86, k86, l86⟩ := h86.form
    have e86 : x86 = .slice A86 2 c86 := e86
    subst e86
    refine ask_do rfl fun K hK => ?_
    go_simp
    exact hK _ _ rfl (Sl.build [[.slice A86 2 c86]] rfl ⟨⟨_, rfl, h86⟩, trivial⟩ rfl (by decide)) (World.grownBy_alloc w' _ none)
  -- op 4 (slot 88): call
  refine MonoR.step (Pv.tup (encP) [(1, 3), (0, 0)] 0) [(0, 84), (1, 85), (3, 87)] (by kernel_rfl) (fun w' hw' => ?_) ?_
  · rintro _ rfl
    intro x85 h85
    have h85 : Sl (encI) TT w' x85 [7] := h85
    intro x87 h87
    have h87 : Sl (encS encP) TT w' x87 [[(12, 3), (0, 0)]] := h87
    refine ask_do rfl fun K hK => ?_
    go_simp
    refine (sum_any ps _ [7] _ [[(12, 3), (0, 0)]] TT TT w' ps_ok h85 h87 (by decide) (by decide)).mono ?_
    rintro e w3 ⟨v3, he, h3, hg⟩
    rw [(show sumE ps [7] [[(12, 3), (0, 0)]] = 0 by rw [sumE_eq]; decide +kernel)] at he
    rw [(show sumL ps [7] [[(12, 3), (0, 0)]] = [(1, 3), (0, 0)] by rw [sumL_eq]; decide +kernel)] at h3
    subst he
    exact hK _ _ rfl ⟨_, rfl, h3.more (fun _ _ _ => trivial)⟩ hg
  -- op 5 (slot 83): move
  refine MonoR.step (Pv.tup (encP) [(1, 3), (0, 0)] 0) [(4, 88)] (by kernel_rfl) (fun w' hw' => ?_) ?_
  · intro x88 q88
    obtain ⟨u88, e88, h88⟩ : ∃ u, x88 = .tuple #[u, .int .i64 0] ∧ Sl (encP) TT w' u [(1, 3), (0, 0)] := q88
    subst e88
    refine ask_do rfl fun K hK => ?_
    go_simp
    exact hK _ _ rfl ⟨_, rfl, h88⟩ (World.grownBy.refl _ none)
  -- op 6 (slot 89): extract
  refine MonoR.step (Pv.sl (encP) TT [(1, 3), (0, 0)]) [(5, 83)] (by kernel_rfl) (fun w' hw' => ?_) ?_
  · intro x83 q83
    obtain ⟨u83, e83, h83⟩ : ∃ u, x83 = .tuple #[u, .int .i64 0] ∧ Sl (encP) TT w' u [(1, 3), (0, 0)] := q83
    subst e83
    refine ask_do rfl fun K hK => ?_
    go_simp
    exact hK _ _ rfl h83 (World.grownBy.refl _ none)
  -- op 7 (slot 90): extract
  refine MonoR.step (Pv.eq (.int .i64 0)) [(5, 83)] (by kernel_rfl) (fun w' hw' => ?_) ?_
  · intro x83 q83
    obtain ⟨u83, e83, h83⟩ : ∃ u, x83 = .tuple #[u, .int .i64 0] ∧ Sl (encP) TT w' u [(1, 3), (0, 0)] := q83
    subst e83
    refine ask_do rfl fun K hK => ?_
    go_simp
    exact hK _ _ rfl rfl (World.grownBy.refl _ none)
  -- op 8 (slot 6): assign
  refine MonoR.step (Pv.sl (encP) TT [(1, 3), (0, 0)]) [(6, 89)] (by kernel_rfl) (fun w' hw' => ?_) ?_
  · intro x89 h89
    have h89 : Sl (encP) TT w' x89 [(1, 3), (0, 0)] := h89
    refine ask_do rfl fun K hK => ?_
    go_simp
    exact hK _ _ rfl h89 (World.grownBy.refl _ none)
  -- op 9 (slot 7): assign
  refine MonoR.step (Pv.eq (.int .i64 0)) [(7, 90)] (by kernel_rfl) (fun w' hw' => ?_) ?_
  · rintro _ rfl
    refine ask_do rfl fun K hK => ?_
    go_simp
    exact hK _ _ rfl rfl (World.grownBy.refl _ none)
  intro w9 hww9
  intro _ _
  intro _ _
  intro _ _
  intro _ _
  intro _ _
  intro _ _
  intro _ _
  intro _ _
  intro v6 h6'
  rintro _ rfl
  simp only [Act.put, List.setIfInBounds_toArray, List.set_cons_zero, List.set_cons_succ]
  have HBd : Hid (Bk w9 w2.heap.size 24 ps.cells) := Lib.hid (Bk.grown HB.out hww9 (by simp))
  have HGd : Hid (w.grownBy w9 none) := Lib.hid ((HG.out).trans hww9)
  have HS2d : Hid (Sl (encD) TT w9 v2 [(1, [[4, 1], [1, 4]]), (2, [[9, 1], [1, 1]])]) := Lib.hid (Sl.kept HS2.out hww9)
  have HS5d : Hid (Sl (encP) TT w9 v5 [(12, 3), (0, 0)]) := Lib.hid (Sl.kept HS5.out hww9)
  clear HB
  have HB := HBd
  clear HBd
  clear HG
  have HG := HGd
  clear HGd
  clear HS2
  have HS2 := HS2d
  clear HS2d
  clear HS5
  have HS5 := HS5d
  clear HS5d
  have HS6 : Hid (Sl (encP) TT w9 v6 [(1, 3), (0, 0)]) := Lib.hid h6'
  clear h6'
  clear hww9
  refine wpList_nil ?_
  go_upto_region 10 with (fail)
  refine wp_region_seqm 10 (by kernel_rfl) ?_
  -- op 0 (slot 91): move
  refine MonoR.step (Pv.eq (.int .i64 0)) [] (by kernel_rfl) (fun w' hw' => ?_) ?_
  · refine ask_do rfl fun K hK => ?_
    go_simp
    exact hK _ _ rfl rfl (World.grownBy.refl _ none)
  -- op 1 (slot 92): binOp
  refine MonoR.step (Pv.eq (.bool false)) [(0, 91)] (by kernel_rfl) (fun w' hw' => ?_) ?_
  · rintro _ rfl
    refine ask_do rfl fun K hK => ?_
    go_simp
    exact hK _ _ rfl rfl (World.grownBy.refl _ none)
  -- op 2 (slot 93): move
  refine MonoR.step (Pv.eq (.bool false)) [(1, 92)] (by kernel_rfl) (fun w' hw' => ?_) ?_
  · rintro _ rfl
    refine ask_do rfl fun K hK => ?_
    go_simp
    exact hK _ _ rfl rfl (World.grownBy.refl _ none)
  -- op 3 (slot 94): move
  refine MonoR.step (Pv.sl (encP) TT [(1, 3), (0, 0)]) [(2, 93)] (by kernel_rfl) (fun w' hw' => ?_) ?_
  · rintro _ rfl
    refine ask_do rfl fun K hK => ?_
    go_simp
    exact hK _ _ rfl (HS6.out.kept hw') (World.grownBy.refl _ none)
  -- op 4 (slot 95): build
  refine MonoR.step (Pv.eq (.agg #[.int .u64 1, .int .u64 3])) [(2, 93)] (by kernel_rfl) (fun w' hw' => ?_) ?_
  · rintro _ rfl
    refine ask_do rfl fun K hK => ?_
    go_simp
    exact hK _ _ rfl rfl (World.grownBy.refl _ none)
  -- op 5 (slot 96): build
  refine MonoR.step (Pv.eq (.agg #[.int .u64 0, .int .u64 0])) [(2, 93)] (by kernel_rfl) (fun w' hw' => ?_) ?_
  · rintro _ rfl
    refine ask_do rfl fun K hK => ?_
    go_simp
    exact hK _ _ rfl rfl (World.grownBy.refl _ none)
  -- op 6 (slot 97): buildSlice
  refine MonoR.step (Pv.sl (encP) TT [(1, 3), (0, 0)]) [(2, 93), (4, 95), (5, 96)] (by kernel_rfl) (fun w' hw' => ?_) ?_
  · rintro _ rfl
    rintro _ rfl
    rintro _ rfl
    refine ask_do rfl fun K hK => ?_
    go_simp
    exact hK _ _ rfl (Sl.build [[.int .u64 1, .int .u64 3], [.int .u64 0, .int .u64 0]] rfl ⟨⟨rfl, by decide, by decide⟩, ⟨rfl, by decide, by decide⟩, trivial⟩ rfl (by decide)) (World.grownBy_alloc w' _ none)
  -- op 7 (slot 98): call
  refine MonoR.step (Pv.eq (.bool true)) [(2, 93), (3, 94), (6, 97)] (by kernel_rfl) (fun w' hw' => ?_) ?_
  · rintro _ rfl
    intro x94 h94
    have h94 : Sl (encP) TT w' x94 [(1, 3), (0, 0)] := h94
    intro x97 h97
    have h97 : Sl (encP) TT w' x97 [(1, 3), (0, 0)] := h97
    refine ask_do rfl fun K hK => ?_
    go_simp
    refine (same_eq _ _ [(1, 3), (0, 0)] TT TT w' h94 h97).mono ?_
    rintro e w3 ⟨rfl, m3, rfl⟩
    exact hK _ _ rfl rfl (grown_drewN' w' m3)
  -- op 8 (slot 99): unOp
  refine MonoR.step (Pv.eq (.bool false)) [(2, 93), (7, 98)] (by kernel_rfl) (fun w' hw' => ?_) ?_
  · rintro _ rfl
    rintro _ rfl
    refine ask_do rfl fun K hK => ?_
    go_simp
    exact hK _ _ rfl rfl (World.grownBy.refl _ none)
  -- op 9 (slot 100): pick
  refine MonoR.step (Pv.eq (.bool false)) [(2, 93), (8, 99)] (by kernel_rfl) (fun w' hw' => ?_) ?_
  · rintro _ rfl
    rintro _ rfl
    refine ask_do rfl fun K hK => ?_
    go_simp
    exact hK _ _ rfl rfl (World.grownBy.refl _ none)
  intro w10 hww10
  intro _ _
  intro _ _
  intro _ _
  intro _ _
  intro _ _
  intro _ _
  intro _ _
  intro _ _
  intro _ _
  rintro _ rfl
  simp only [Act.put, List.setIfInBounds_toArray, List.set_cons_zero, List.set_cons_succ]
  have HBd : Hid (Bk w10 w2.heap.size 24 ps.cells) := Lib.hid (Bk.grown HB.out hww10 (by simp))
  have HGd : Hid (w.grownBy w10 none) := Lib.hid ((HG.out).trans hww10)
  have HS2d : Hid (Sl (encD) TT w10 v2 [(1, [[4, 1], [1, 4]]), (2, [[9, 1], [1, 1]])]) := Lib.hid (Sl.kept HS2.out hww10)
  have HS5d : Hid (Sl (encP) TT w10 v5 [(12, 3), (0, 0)]) := Lib.hid (Sl.kept HS5.out hww10)
  have HS6d : Hid (Sl (encP) TT w10 v6 [(1, 3), (0, 0)]) := Lib.hid (Sl.kept HS6.out hww10)
  clear HB
  have HB := HBd
  clear HBd
  clear HG
  have HG := HGd
  clear HGd
  clear HS2
  have HS2 := HS2d
  clear HS2d
  clear HS5
  have HS5 := HS5d
  clear HS5d
  clear HS6
  have HS6 := HS6d
  clear HS6d
  clear hww10
  refine wpList_nil ?_
  clear HS6
  have HWG : Hid (w10.grownBy (((w10.alloc (.cells podd.cells 24)).alloc (.cells pflat.cells 24)).alloc (.cells pfew.cells 24)) none) := Lib.hid ((World.grownBy_alloc _ _ none).trans grown_two)
  have HBo : Hid (Bk (((w10.alloc (.cells podd.cells 24)).alloc (.cells pflat.cells 24)).alloc (.cells pfew.cells 24)) w10.heap.size 24 podd.cells) := Lib.hid (((Bk.new w10 _ _).alloc _).alloc _)
  have HBf : Hid (Bk (((w10.alloc (.cells podd.cells 24)).alloc (.cells pflat.cells 24)).alloc (.cells pfew.cells 24)) (w10.heap.size + 1) 24 pflat.cells) := Lib.hid (by
    have h := (Bk.new (w10.alloc (.cells podd.cells 24)) 24 pflat.cells).alloc (.cells pfew.cells 24)
    rw [World.size_alloc] at h
    exact h)
  have HBw : Hid (Bk (((w10.alloc (.cells podd.cells 24)).alloc (.cells pflat.cells 24)).alloc (.cells pfew.cells 24)) (w10.heap.size + 1 + 1) 24 pfew.cells) := Lib.hid (by
    have h := Bk.new ((w10.alloc (.cells podd.cells 24)).alloc (.cells pflat.cells 24)) 24 pfew.cells
    rw [World.size_alloc, World.size_alloc] at h
    exact h)
  have hp10 := HB.out.prule
  have hp11 := (HB.out.alloc (.cells podd.cells 24)).prule
  have hp12 := ((HB.out.alloc (.cells podd.cells 24)).alloc (.cells pflat.cells 24)).prule
  go_upto_region 18 with (fail)
  clear hp10 hp11 hp12
  obtain ⟨w11, hw11⟩ : ∃ x, ((w10.alloc (.cells podd.cells 24)).alloc (.cells pflat.cells 24)).alloc (.cells pfew.cells 24) = x := ⟨_, rfl⟩
  rw [hw11] at HWG HBo HBf HBw ⊢
  clear hw11
  have HBd : Hid (Bk w11 w2.heap.size 24 ps.cells) := Lib.hid (Bk.grown HB.out HWG.out (by simp))
  clear HB
  have HB := HBd
  clear HBd
  have HGd : Hid (w.grownBy w11 none) := Lib.hid ((HG.out).trans HWG.out)
  clear HG
  have HG := HGd
  clear HGd
  have HS2d : Hid (Sl (encD) TT w11 v2 [(1, [[4, 1], [1, 4]]), (2, [[9, 1], [1, 1]])]) := Lib.hid (Sl.kept HS2.out HWG.out)
  clear HS2
  have HS2 := HS2d
  clear HS2d
  have HS5d : Hid (Sl (encP) TT w11 v5 [(12, 3), (0, 0)]) := Lib.hid (Sl.kept HS5.out HWG.out)
  clear HS5
  have HS5 := HS5d
  clear HS5d
  clear HWG
  refine wp_region_seqm 6 (by kernel_rfl) ?_
  -- op 0 (slot 107): buildSlice
  refine MonoR.step (Pv.sl (encU) TT [4, 1]) [] (by kernel_rfl) (fun w' hw' => ?_) ?_
  · refine ask_do rfl fun K hK => ?_
    go_simp
    exact hK _ _ rfl (Sl.build [[.int .u64 4], [.int .u64 1]] rfl ⟨⟨rfl, ⟨by decide, by decide⟩⟩, ⟨rfl, ⟨by decide, by decide⟩⟩, trivial⟩ rfl (by decide)) (World.grownBy_alloc w' _ none)
  -- op 1 (slot 108): buildSlice
  refine MonoR.step (Pv.sl (encU) TT [1]) [] (by kernel_rfl) (fun w' hw' => ?_) ?_
  · refine ask_do rfl fun K hK => ?_
    go_simp
    exact hK _ _ rfl (Sl.build [[.int .u64 1]] rfl ⟨⟨rfl, ⟨by decide, by decide⟩⟩, trivial⟩ rfl (by decide)) (World.grownBy_alloc w' _ none)
  -- op 2 (slot 109): buildSlice
  refine MonoR.step (Pv.sl (encS encU) TT [[4, 1], [1]]) [(0, 107), (1, 108)] (by kernel_rfl) (fun w' hw' => ?_) ?_
  · intro x107 h107
    have h107 : Sl (encU) TT w' x107 [4, 1] := h107
    obtain ⟨A107, c107, e107, k107, l107⟩ := h107.form
    have e107 : x107 = .slice A107 2 c107 := e107
    subst e107
    intro x108 h108
    have h108 : Sl (encU) TT w' x108 [1] := h108
    obtain ⟨A108, c108, e108, k108, l108⟩ := h108.form
    have e108 : x108 = .slice A108 1 c108 := e108
    subst e108
    refine ask_do rfl fun K hK => ?_
    go_simp
    exact hK _ _ rfl (Sl.build [[.slice A107 2 c107], [.slice A108 1 c108]] rfl ⟨⟨_, rfl, h107⟩, ⟨_, rfl, h108⟩, trivial⟩ rfl (by decide)) (World.grownBy_alloc w' _ none)
  -- op 3 (slot 110): build
  refine MonoR.step (Pv.dealt 1 [[4, 1], [1]]) [(2, 109)] (by kernel_rfl) (fun w' hw' => ?_) ?_
  · intro x109 h109
    have h109 : Sl (encS encU) TT w' x109 [[4, 1], [1]] := h109
    obtain ⟨A109, c109, e109, k109, l109⟩ := h109.form
    have e109 : x109 = .slice A109 2 c109 := e109
    subst e109
    refine ask_do rfl fun K hK => ?_
    go_simp
    exact hK _ _ rfl ⟨_, rfl, h109⟩ (World.grownBy.refl _ none)
  -- op 4 (slot 111): buildSlice
  refine MonoR.step (Pv.sl (encD) TT [(1, [[4, 1], [1]])]) [(3, 110)] (by kernel_rfl) (fun w' hw' => ?_) ?_
  · intro x110 q110
    obtain ⟨u110, e110, h110⟩ : ∃ u, x110 = .agg #[.int .i64 1, u] ∧ Sl (encS encU) TT w' u [[4, 1], [1]] := q110
    subst e110
    obtain ⟨A110, c110, e110, k110, l110⟩ := h110.form
    have e110 : u110 = .slice A110 2 c110 := e110
    subst e110
    refine ask_do rfl fun K hK => ?_
    go_simp
    exact hK _ _ rfl (Sl.build [[.int .i64 1, .slice A110 2 c110]] rfl ⟨⟨_, rfl, ⟨by decide, by decide⟩, h110⟩, trivial⟩ rfl (by decide)) (World.grownBy_alloc w' _ none)
  -- op 5 (slot 11): assign
  refine MonoR.step (Pv.sl (encD) TT [(1, [[4, 1], [1]])]) [(4, 111)] (by kernel_rfl) (fun w' hw' => ?_) ?_
  · intro x111 h111
    have h111 : Sl (encD) TT w' x111 [(1, [[4, 1], [1]])] := h111
    refine ask_do rfl fun K hK => ?_
    go_simp
    exact hK _ _ rfl h111 (World.grownBy.refl _ none)
  intro w12 hww12
  intro _ _
  intro _ _
  intro _ _
  intro _ _
  intro _ _
  intro v11 h11'
  simp only [Act.put, List.setIfInBounds_toArray, List.set_cons_zero, List.set_cons_succ]
  have HBd : Hid (Bk w12 w2.heap.size 24 ps.cells) := Lib.hid (Bk.grown HB.out hww12 (by simp))
  have HGd : Hid (w.grownBy w12 none) := Lib.hid ((HG.out).trans hww12)
  have HS2d : Hid (Sl (encD) TT w12 v2 [(1, [[4, 1], [1, 4]]), (2, [[9, 1], [1, 1]])]) := Lib.hid (Sl.kept HS2.out hww12)
  have HS5d : Hid (Sl (encP) TT w12 v5 [(12, 3), (0, 0)]) := Lib.hid (Sl.kept HS5.out hww12)
  have HBod : Hid (Bk w12 w10.heap.size 24 podd.cells) := Lib.hid (Bk.grown HBo.out hww12 (by simp))
  have HBfd : Hid (Bk w12 (w10.heap.size + 1) 24 pflat.cells) := Lib.hid (Bk.grown HBf.out hww12 (by simp))
  have HBwd : Hid (Bk w12 (w10.heap.size + 1 + 1) 24 pfew.cells) := Lib.hid (Bk.grown HBw.out hww12 (by simp))
  clear HB
  have HB := HBd
  clear HBd
  clear HG
  have HG := HGd
  clear HGd
  clear HS2
  have HS2 := HS2d
  clear HS2d
  clear HS5
  have HS5 := HS5d
  clear HS5d
  clear HBo
  have HBo := HBod
  clear HBod
  clear HBf
  have HBf := HBfd
  clear HBfd
  clear HBw
  have HBw := HBwd
  clear HBwd
  have HS11 : Hid (Sl (encD) TT w12 v11 [(1, [[4, 1], [1]])]) := Lib.hid h11'
  clear h11'
  clear hww12
  refine wpList_nil ?_
  go_upto_region 19 with (fail)
  refine wp_region_seqm 7 (by kernel_rfl) ?_
  -- op 0 (slot 113): load
  refine MonoR.step (Pv.eq (ps.v)) [] (by kernel_rfl) (fun w' hw' => ?_) ?_
  · refine ask_do rfl fun K hK => ?_
    have hp := (HB.out.grown hw' (by simp)).prule
    go_simp
    exact hK _ _ rfl rfl (World.grownBy.refl _ none)
  -- op 1 (slot 114): call
  refine MonoR.step (Pv.tup (encP) [] 1) [(0, 113)] (by kernel_rfl) (fun w' hw' => ?_) ?_
  · rintro _ rfl
    refine ask_do rfl fun K hK => ?_
    go_simp
    refine (sum_any ps _ [] _ [] TT TT w' ps_ok (Sl.nil _ TT w') (Sl.nil _ TT w') (by decide) (by decide)).mono ?_
    rintro e w3 ⟨v3, he, h3, hg⟩
    rw [(show sumE ps [] [] = 1 by rw [sumE_eq]; decide +kernel)] at he
    rw [(show sumL ps [] [] = [] by rw [sumL_eq]; decide +kernel)] at h3
    subst he
    exact hK _ _ rfl ⟨_, rfl, h3.more (fun _ _ _ => trivial)⟩ hg
  -- op 2 (slot 112): move
  refine MonoR.step (Pv.tup (encP) [] 1) [(1, 114)] (by kernel_rfl) (fun w' hw' => ?_) ?_
  · intro x114 q114
    obtain ⟨u114, e114, h114⟩ : ∃ u, x114 = .tuple #[u, .int .i64 1] ∧ Sl (encP) TT w' u [] := q114
    subst e114
    refine ask_do rfl fun K hK => ?_
    go_simp
    exact hK _ _ rfl ⟨_, rfl, h114⟩ (World.grownBy.refl _ none)
  -- op 3 (slot 115): extract
  refine MonoR.step (Pv.sl (encP) TT []) [(2, 112)] (by kernel_rfl) (fun w' hw' => ?_) ?_
  · intro x112 q112
    obtain ⟨u112, e112, h112⟩ : ∃ u, x112 = .tuple #[u, .int .i64 1] ∧ Sl (encP) TT w' u [] := q112
    subst e112
    refine ask_do rfl fun K hK => ?_
    go_simp
    exact hK _ _ rfl h112 (World.grownBy.refl _ none)
  -- op 4 (slot 116): extract
  refine MonoR.step (Pv.eq (.int .i64 1)) [(2, 112)] (by kernel_rfl) (fun w' hw' => ?_) ?_
  · intro x112 q112
    obtain ⟨u112, e112, h112⟩ : ∃ u, x112 = .tuple #[u, .int .i64 1] ∧ Sl (encP) TT w' u [] := q112
    subst e112
    refine ask_do rfl fun K hK => ?_
    go_simp
    exact hK _ _ rfl rfl (World.grownBy.refl _ none)
  -- op 5 (slot 12): assign
  refine MonoR.step (Pv.sl (encP) TT []) [(3, 115)] (by kernel_rfl) (fun w' hw' => ?_) ?_
  · intro x115 h115
    have h115 : Sl (encP) TT w' x115 [] := h115
    refine ask_do rfl fun K hK => ?_
    go_simp
    exact hK _ _ rfl h115 (World.grownBy.refl _ none)
  -- op 6 (slot 13): assign
  refine MonoR.step (Pv.eq (.int .i64 1)) [(4, 116)] (by kernel_rfl) (fun w' hw' => ?_) ?_
  · rintro _ rfl
    refine ask_do rfl fun K hK => ?_
    go_simp
    exact hK _ _ rfl rfl (World.grownBy.refl _ none)
  intro w13 hww13
  intro _ _
  intro _ _
  intro _ _
  intro _ _
  intro _ _
  intro _ _
  rintro _ rfl
  simp only [Act.put, List.setIfInBounds_toArray, List.set_cons_zero, List.set_cons_succ]
  have HBd : Hid (Bk w13 w2.heap.size 24 ps.cells) := Lib.hid (Bk.grown HB.out hww13 (by simp))
  have HGd : Hid (w.grownBy w13 none) := Lib.hid ((HG.out).trans hww13)
  have HS2d : Hid (Sl (encD) TT w13 v2 [(1, [[4, 1], [1, 4]]), (2, [[9, 1], [1, 1]])]) := Lib.hid (Sl.kept HS2.out hww13)
  have HS5d : Hid (Sl (encP) TT w13 v5 [(12, 3), (0, 0)]) := Lib.hid (Sl.kept HS5.out hww13)
  have HBod : Hid (Bk w13 w10.heap.size 24 podd.cells) := Lib.hid (Bk.grown HBo.out hww13 (by simp))
  have HBfd : Hid (Bk w13 (w10.heap.size + 1) 24 pflat.cells) := Lib.hid (Bk.grown HBf.out hww13 (by simp))
  have HBwd : Hid (Bk w13 (w10.heap.size + 1 + 1) 24 pfew.cells) := Lib.hid (Bk.grown HBw.out hww13 (by simp))
  have HS11d : Hid (Sl (encD) TT w13 v11 [(1, [[4, 1], [1]])]) := Lib.hid (Sl.kept HS11.out hww13)
  clear HB
  have HB := HBd
  clear HBd
  clear HG
  have HG := HGd
  clear HGd
  clear HS2
  have HS2 := HS2d
  clear HS2d
  clear HS5
  have HS5 := HS5d
  clear HS5d
  clear HBo
  have HBo := HBod
  clear HBod
  clear HBf
  have HBf := HBfd
  clear HBfd
  clear HBw
  have HBw := HBwd
  clear HBwd
  clear HS11
  have HS11 := HS11d
  clear HS11d
  clear hww13
  refine wpList_nil ?_
  go_upto_region 20 with (fail)
  refine wp_region_seqm 8 (by kernel_rfl) ?_
  -- op 0 (slot 118): load
  refine MonoR.step (Pv.eq (ps.v)) [] (by kernel_rfl) (fun w' hw' => ?_) ?_
  · refine ask_do rfl fun K hK => ?_
    have hp := (HB.out.grown hw' (by simp)).prule
    go_simp
    exact hK _ _ rfl rfl (World.grownBy.refl _ none)
  -- op 1 (slot 119): buildSlice
  refine MonoR.step (Pv.sl (encI) TT [1]) [] (by kernel_rfl) (fun w' hw' => ?_) ?_
  · refine ask_do rfl fun K hK => ?_
    go_simp
    exact hK _ _ rfl (Sl.build [[.int .i64 1]] rfl ⟨⟨rfl, ⟨by decide, by decide⟩⟩, trivial⟩ rfl (by decide)) (World.grownBy_alloc w' _ none)
  -- op 2 (slot 120): call
  refine MonoR.step (Pv.tup (encP) [] 1) [(0, 118), (1, 119)] (by kernel_rfl) (fun w' hw' => ?_) ?_
  · rintro _ rfl
    intro x119 h119
    have h119 : Sl (encI) TT w' x119 [1] := h119
    refine ask_do rfl fun K hK => ?_
    go_simp
    refine (sum_any ps _ [1] _ [] TT TT w' ps_ok h119 (Sl.nil _ TT w') (by decide) (by decide)).mono ?_
    rintro e w3 ⟨v3, he, h3, hg⟩
    rw [(show sumE ps [1] [] = 1 by rw [sumE_eq]; decide +kernel)] at he
    rw [(show sumL ps [1] [] = [] by rw [sumL_eq]; decide +kernel)] at h3
    subst he
    exact hK _ _ rfl ⟨_, rfl, h3.more (fun _ _ _ => trivial)⟩ hg
  -- op 3 (slot 117): move
  refine MonoR.step (Pv.tup (encP) [] 1) [(2, 120)] (by kernel_rfl) (fun w' hw' => ?_) ?_
  · intro x120 q120
    obtain ⟨u120, e120, h120⟩ : ∃ u, x120 = .tuple #[u, .int .i64 1] ∧ Sl (encP) TT w' u [] := q120
    subst e120
    refine ask_do rfl fun K hK => ?_
    go_simp
    exact hK _ _ rfl ⟨_, rfl, h120⟩ (World.grownBy.refl _ none)
  -- op 4 (slot 121): extract
  refine MonoR.step (Pv.sl (encP) TT []) [(3, 117)] (by kernel_rfl) (fun w' hw' => ?_) ?_
  · intro x117 q117
    obtain ⟨u117, e117, h117⟩ : ∃ u, x117 = .tuple #[u, .int .i64 1] ∧ Sl (encP) TT w' u [] := q117
    subst e117
    refine ask_do rfl fun K hK => ?_
    go_simp
    exact hK _ _ rfl h117 (World.grownBy.refl _ none)
  -- op 5 (slot 122): extract
  refine MonoR.step (Pv.eq (.int .i64 1)) [(3, 117)] (by kernel_rfl) (fun w' hw' => ?_) ?_
  · intro x117 q117
    obtain ⟨u117, e117, h117⟩ : ∃ u, x117 = .tuple #[u, .int .i64 1] ∧ Sl (encP) TT w' u [] := q117
    subst e117
    refine ask_do rfl fun K hK => ?_
    go_simp
    exact hK _ _ rfl rfl (World.grownBy.refl _ none)
  -- op 6 (slot 14): assign
  refine MonoR.step (Pv.sl (encP) TT []) [(4, 121)] (by kernel_rfl) (fun w' hw' => ?_) ?_
  · intro x121 h121
    have h121 : Sl (encP) TT w' x121 [] := h121
    refine ask_do rfl fun K hK => ?_
    go_simp
    exact hK _ _ rfl h121 (World.grownBy.refl _ none)
  -- op 7 (slot 15): assign
  refine MonoR.step (Pv.eq (.int .i64 1)) [(5, 122)] (by kernel_rfl) (fun w' hw' => ?_) ?_
  · rintro _ rfl
    refine ask_do rfl fun K hK => ?_
    go_simp
    exact hK _ _ rfl rfl (World.grownBy.refl _ none)
  intro w14 hww14
  intro _ _
  intro _ _
  intro _ _
  intro _ _
  intro _ _
  intro _ _
  intro _ _
  rintro _ rfl
  simp only [Act.put, List.setIfInBounds_toArray, List.set_cons_zero, List.set_cons_succ]
  have HBd : Hid (Bk w14 w2.heap.size 24 ps.cells) := Lib.hid (Bk.grown HB.out hww14 (by simp))
  have HGd : Hid (w.grownBy w14 none) := Lib.hid ((HG.out).trans hww14)
  have HS2d : Hid (Sl (encD) TT w14 v2 [(1, [[4, 1], [1, 4]]), (2, [[9, 1], [1, 1]])]) := Lib.hid (Sl.kept HS2.out hww14)
  have HS5d : Hid (Sl (encP) TT w14 v5 [(12, 3), (0, 0)]) := Lib.hid (Sl.kept HS5.out hww14)
  have HBod : Hid (Bk w14 w10.heap.size 24 podd.cells) := Lib.hid (Bk.grown HBo.out hww14 (by simp))
  have HBfd : Hid (Bk w14 (w10.heap.size + 1) 24 pflat.cells) := Lib.hid (Bk.grown HBf.out hww14 (by simp))
  have HBwd : Hid (Bk w14 (w10.heap.size + 1 + 1) 24 pfew.cells) := Lib.hid (Bk.grown HBw.out hww14 (by simp))
  have HS11d : Hid (Sl (encD) TT w14 v11 [(1, [[4, 1], [1]])]) := Lib.hid (Sl.kept HS11.out hww14)
  clear HB
  have HB := HBd
  clear HBd
  clear HG
  have HG := HGd
  clear HGd
  clear HS2
  have HS2 := HS2d
  clear HS2d
  clear HS5
  have HS5 := HS5d
  clear HS5d
  clear HBo
  have HBo := HBod
  clear HBod
  clear HBf
  have HBf := HBfd
  clear HBfd
  clear HBw
  have HBw := HBwd
  clear HBwd
  clear HS11
  have HS11 := HS11d
  clear HS11d
  clear hww14
  refine wpList_nil ?_
  go_upto_region 21 with (fail)
  refine wp_region_seqm 10 (by kernel_rfl) ?_
  -- op 0 (slot 124): load
  refine MonoR.step (Pv.eq (ps.v)) [] (by kernel_rfl) (fun w' hw' => ?_) ?_
  · refine ask_do rfl fun K hK => ?_
    have hp := (HB.out.grown hw' (by simp)).prule
    go_simp
    exact hK _ _ rfl rfl (World.grownBy.refl _ none)
  -- op 1 (slot 125): buildSlice
  refine MonoR.step (Pv.sl (encI) TT [0]) [] (by kernel_rfl) (fun w' hw' => ?_) ?_
  · refine ask_do rfl fun K hK => ?_
    go_simp
    exact hK _ _ rfl (Sl.build [[.int .i64 0]] rfl ⟨⟨rfl, ⟨by decide, by decide⟩⟩, trivial⟩ rfl (by decide)) (World.grownBy_alloc w' _ none)
  -- op 2 (slot 126): move
  refine MonoR.step (Pv.sl (encP) TT [(12, 3), (0, 0)]) [] (by kernel_rfl) (fun w' hw' => ?_) ?_
  · refine ask_do rfl fun K hK => ?_
    go_simp
    exact hK _ _ rfl (HS5.out.kept hw') (World.grownBy.refl _ none)
  -- op 3 (slot 127): buildSlice
  refine MonoR.step (Pv.sl (encS encP) TT [[(12, 3), (0, 0)]]) [(2, 126)] (by kernel_rfl) (fun w' hw' => ?_) ?_
  · intro x126 h126
    have h126 : Sl (encP) TT w' x126 [(12, 3), (0, 0)] := h126
    obtain ⟨A126, c126, e126, k126, l126⟩ := h126.form
    have e126 : x126 = .slice A126 2 c126 := e126
    subst e126
    refine ask_do rfl fun K hK => ?_
    go_simp
    exact hK _ _ rfl (Sl.build [[.slice A126 2 c126]] rfl ⟨⟨_, rfl, h126⟩, trivial⟩ rfl (by decide)) (World.grownBy_alloc w' _ none)
  -- op 4 (slot 128): call
  refine MonoR.step (Pv.tup (encP) [] 1) [(0, 124), (1, 125), (3, 127)] (by kernel_rfl) (fun w' hw' => ?_) ?_
  · rintro _ rfl
    intro x125 h125
    have h125 : Sl (encI) TT w' x125 [0] := h125
    intro x127 h127
    have h127 : Sl (encS encP) TT w' x127 [[(12, 3), (0, 0)]] := h127
    refine ask_do rfl fun K hK => ?_
    go_simp
    refine (sum_any ps _ [0] _ [[(12, 3), (0, 0)]] TT TT w' ps_ok h125 h127 (by decide) (by decide)).mono ?_
    rintro e w3 ⟨v3, he, h3, hg⟩
    rw [(show sumE ps [0] [[(12, 3), (0, 0)]] = 1 by rw [sumE_eq]; decide +kernel)] at he
    rw [(show sumL ps [0] [[(12, 3), (0, 0)]] = [] by rw [sumL_eq]; decide +kernel)] at h3
    subst he
    exact hK _ _ rfl ⟨_, rfl, h3.more (fun _ _ _ => trivial)⟩ hg
  -- op 5 (slot 123): move
  refine MonoR.step (Pv.tup (encP) [] 1) [(4, 128)] (by kernel_rfl) (fun w' hw' => ?_) ?_
  · intro x128 q128
    obtain ⟨u128, e128, h128⟩ : ∃ u, x128 = .tuple #[u, .int .i64 1] ∧ Sl (encP) TT w' u [] := q128
    subst e128
    refine ask_do rfl fun K hK => ?_
    go_simp
    exact hK _ _ rfl ⟨_, rfl, h128⟩ (World.grownBy.refl _ none)
  -- op 6 (slot 129): extract
  refine MonoR.step (Pv.sl (encP) TT []) [(5, 123)] (by kernel_rfl) (fun w' hw' => ?_) ?_
  · intro x123 q123
    obtain ⟨u123, e123, h123⟩ : ∃ u, x123 = .tuple #[u, .int .i64 1] ∧ Sl (encP) TT w' u [] := q123
    subst e123
    refine ask_do rfl fun K hK => ?_
    go_simp
    exact hK _ _ rfl h123 (World.grownBy.refl _ none)
  -- op 7 (slot 130): extract
  refine MonoR.step (Pv.eq (.int .i64 1)) [(5, 123)] (by kernel_rfl) (fun w' hw' => ?_) ?_
  · intro x123 q123
    obtain ⟨u123, e123, h123⟩ : ∃ u, x123 = .tuple #[u, .int .i64 1] ∧ Sl (encP) TT w' u [] := q123
    subst e123
    refine ask_do rfl fun K hK => ?_
    go_simp
    exact hK _ _ rfl rfl (World.grownBy.refl _ none)
  -- op 8 (slot 16): assign
  refine MonoR.step (Pv.sl (encP) TT []) [(6, 129)] (by kernel_rfl) (fun w' hw' => ?_) ?_
  · intro x129 h129
    have h129 : Sl (encP) TT w' x129 [] := h129
    refine ask_do rfl fun K hK => ?_
    go_simp
    exact hK _ _ rfl h129 (World.grownBy.refl _ none)
  -- op 9 (slot 17): assign
  refine MonoR.step (Pv.eq (.int .i64 1)) [(7, 130)] (by kernel_rfl) (fun w' hw' => ?_) ?_
  · rintro _ rfl
    refine ask_do rfl fun K hK => ?_
    go_simp
    exact hK _ _ rfl rfl (World.grownBy.refl _ none)
  intro w15 hww15
  intro _ _
  intro _ _
  intro _ _
  intro _ _
  intro _ _
  intro _ _
  intro _ _
  intro _ _
  intro _ _
  rintro _ rfl
  simp only [Act.put, List.setIfInBounds_toArray, List.set_cons_zero, List.set_cons_succ]
  have HBd : Hid (Bk w15 w2.heap.size 24 ps.cells) := Lib.hid (Bk.grown HB.out hww15 (by simp))
  have HGd : Hid (w.grownBy w15 none) := Lib.hid ((HG.out).trans hww15)
  have HS2d : Hid (Sl (encD) TT w15 v2 [(1, [[4, 1], [1, 4]]), (2, [[9, 1], [1, 1]])]) := Lib.hid (Sl.kept HS2.out hww15)
  have HS5d : Hid (Sl (encP) TT w15 v5 [(12, 3), (0, 0)]) := Lib.hid (Sl.kept HS5.out hww15)
  have HBod : Hid (Bk w15 w10.heap.size 24 podd.cells) := Lib.hid (Bk.grown HBo.out hww15 (by simp))
  have HBfd : Hid (Bk w15 (w10.heap.size + 1) 24 pflat.cells) := Lib.hid (Bk.grown HBf.out hww15 (by simp))
  have HBwd : Hid (Bk w15 (w10.heap.size + 1 + 1) 24 pfew.cells) := Lib.hid (Bk.grown HBw.out hww15 (by simp))
  have HS11d : Hid (Sl (encD) TT w15 v11 [(1, [[4, 1], [1]])]) := Lib.hid (Sl.kept HS11.out hww15)
  clear HB
  have HB := HBd
  clear HBd
  clear HG
  have HG := HGd
  clear HGd
  clear HS2
  have HS2 := HS2d
  clear HS2d
  clear HS5
  have HS5 := HS5d
  clear HS5d
  clear HBo
  have HBo := HBod
  clear HBod
  clear HBf
  have HBf := HBfd
  clear HBfd
  clear HBw
  have HBw := HBwd
  clear HBwd
  clear HS11
  have HS11 := HS11d
  clear HS11d
  clear hww15
  refine wpList_nil ?_
  go_upto_region 22 with (fail)
  have HBd : Hid (Bk w15.drew w2.heap.size 24 ps.cells) := Lib.hid (Bk.grown HB.out (grown_drewN' w15 1) (by simp))
  have HGd : Hid (w.grownBy w15.drew none) := Lib.hid ((HG.out).trans (grown_drewN' w15 1))
  have HS2d : Hid (Sl (encD) TT w15.drew v2 [(1, [[4, 1], [1, 4]]), (2, [[9, 1], [1, 1]])]) := Lib.hid (Sl.kept HS2.out (grown_drewN' w15 1))
  have HS5d : Hid (Sl (encP) TT w15.drew v5 [(12, 3), (0, 0)]) := Lib.hid (Sl.kept HS5.out (grown_drewN' w15 1))
  have HBod : Hid (Bk w15.drew w10.heap.size 24 podd.cells) := Lib.hid (Bk.grown HBo.out (grown_drewN' w15 1) (by simp))
  have HBfd : Hid (Bk w15.drew (w10.heap.size + 1) 24 pflat.cells) := Lib.hid (Bk.grown HBf.out (grown_drewN' w15 1) (by simp))
  have HBwd : Hid (Bk w15.drew (w10.heap.size + 1 + 1) 24 pfew.cells) := Lib.hid (Bk.grown HBw.out (grown_drewN' w15 1) (by simp))
  have HS11d : Hid (Sl (encD) TT w15.drew v11 [(1, [[4, 1], [1]])]) := Lib.hid (Sl.kept HS11.out (grown_drewN' w15 1))
  clear HB
  have HB := HBd
  clear HBd
  clear HG
  have HG := HGd
  clear HGd
  clear HS2
  have HS2 := HS2d
  clear HS2d
  clear HS5
  have HS5 := HS5d
  clear HS5d
  clear HBo
  have HBo := HBod
  clear HBod
  clear HBf
  have HBf := HBfd
  clear HBfd
  clear HBw
  have HBw := HBwd
  clear HBwd
  clear HS11
  have HS11 := HS11d
  clear HS11d
  refine wp_region_mono 11 (by kernel_rfl) (by kernel_rfl) ?_
  -- op 0 (slot 132): load
  refine MonoR.step (Pv.eq (ps.v)) [] (by kernel_rfl) (fun w' hw' => ?_) ?_
  · refine ask_do rfl fun K hK => ?_
    have hp := (HB.out.grown hw' (by simp)).prule
    go_simp
    exact hK _ _ rfl rfl (World.grownBy.refl _ none)
  -- op 1 (slot 133): buildSlice
  refine MonoR.step (Pv.sl (encI) TT [1]) [] (by kernel_rfl) (fun w' hw' => ?_) ?_
  · refine ask_do rfl fun K hK => ?_
    go_simp
    exact hK _ _ rfl (Sl.build [[.int .i64 1]] rfl ⟨⟨rfl, ⟨by decide, by decide⟩⟩, trivial⟩ rfl (by decide)) (World.grownBy_alloc w' _ none)
  -- op 2 (slot 134): move
  refine MonoR.step (Pv.sl (encP) TT [(12, 3), (0, 0)]) [] (by kernel_rfl) (fun w' hw' => ?_) ?_
  · refine ask_do rfl fun K hK => ?_
    go_simp
    exact hK _ _ rfl (HS5.out.kept hw') (World.grownBy.refl _ none)
  -- op 3 (slot 135): slice
  refine MonoR.step (Pv.sl (encP) TT [(12, 3)]) [(2, 134)] (by kernel_rfl) (fun w' hw' => ?_) ?_
  · intro x134 h134
    have h134 : Sl (encP) TT w' x134 [(12, 3), (0, 0)] := h134
    obtain ⟨A134, c134, e134, k134, l134⟩ := h134.form
    have e134 : x134 = .slice A134 2 c134 := e134
    subst e134
    refine ask_do rfl fun K hK => ?_
    have kk134 : 1 ≤ c134 := by simp at k134; omega
    have kl134 : (1 : Int) ≤ c134 := by omega
    go_simp
    exact hK _ _ rfl (h134.take 1 (by decide)) (World.grownBy.refl _ none)
  -- op 4 (slot 136): buildSlice
  refine MonoR.step (Pv.sl (encS encP) TT [[(12, 3)]]) [(3, 135)] (by kernel_rfl) (fun w' hw' => ?_) ?_
  · intro x135 h135
    have h135 : Sl (encP) TT w' x135 [(12, 3)] := h135
    obtain ⟨A135, c135, e135, k135, l135⟩ := h135.form
    have e135 : x135 = .slice A135 1 c135 := e135
    subst e135
    refine ask_do rfl fun K hK => ?_
    go_simp
    exact hK _ _ rfl (Sl.build [[.slice A135 1 c135]] rfl ⟨⟨_, rfl, h135⟩, trivial⟩ rfl (by decide)) (World.grownBy_alloc w' _ none)
  -- op 5 (slot 137): call
  refine MonoR.step (Pv.tup (encP) [] 1) [(0, 132), (1, 133), (4, 136)] (by kernel_rfl) (fun w' hw' => ?_) ?_
  · rintro _ rfl
    intro x133 h133
    have h133 : Sl (encI) TT w' x133 [1] := h133
    intro x136 h136
    have h136 : Sl (encS encP) TT w' x136 [[(12, 3)]] := h136
    refine ask_do rfl fun K hK => ?_
    go_simp
    refine (sum_any ps _ [1] _ [[(12, 3)]] TT TT w' ps_ok h133 h136 (by decide) (by decide)).mono ?_
    rintro e w3 ⟨v3, he, h3, hg⟩
    rw [(show sumE ps [1] [[(12, 3)]] = 1 by rw [sumE_eq]; decide +kernel)] at he
    rw [(show sumL ps [1] [[(12, 3)]] = [] by rw [sumL_eq]; decide +kernel)] at h3
    subst he
    exact hK _ _ rfl ⟨_, rfl, h3.more (fun _ _ _ => trivial)⟩ hg
  -- op 6 (slot 131): move
  refine MonoR.step (Pv.tup (encP) [] 1) [(5, 137)] (by kernel_rfl) (fun w' hw' => ?_) ?_
  · intro x137 q137
    obtain ⟨u137, e137, h137⟩ : ∃ u, x137 = .tuple #[u, .int .i64 1] ∧ Sl (encP) TT w' u [] := q137
    subst e137
    refine ask_do rfl fun K hK => ?_
    go_simp
    exact hK _ _ rfl ⟨_, rfl, h137⟩ (World.grownBy.refl _ none)
  -- op 7 (slot 138): extract
  refine MonoR.step (Pv.sl (encP) TT []) [(6, 131)] (by kernel_rfl) (fun w' hw' => ?_) ?_
  · intro x131 q131
    obtain ⟨u131, e131, h131⟩ : ∃ u, x131 = .tuple #[u, .int .i64 1] ∧ Sl (encP) TT w' u [] := q131
    subst e131
    refine ask_do rfl fun K hK => ?_
    go_simp
    exact hK _ _ rfl h131 (World.grownBy.refl _ none)
  -- op 8 (slot 139): extract
  refine MonoR.step (Pv.eq (.int .i64 1)) [(6, 131)] (by kernel_rfl) (fun w' hw' => ?_) ?_
  · intro x131 q131
    obtain ⟨u131, e131, h131⟩ : ∃ u, x131 = .tuple #[u, .int .i64 1] ∧ Sl (encP) TT w' u [] := q131
    subst e131
    refine ask_do rfl fun K hK => ?_
    go_simp
    exact hK _ _ rfl rfl (World.grownBy.refl _ none)
  -- op 9 (slot 18): assign
  refine MonoR.step (Pv.sl (encP) TT []) [(7, 138)] (by kernel_rfl) (fun w' hw' => ?_) ?_
  · intro x138 h138
    have h138 : Sl (encP) TT w' x138 [] := h138
    refine ask_do rfl fun K hK => ?_
    go_simp
    exact hK _ _ rfl h138 (World.grownBy.refl _ none)
  -- op 10 (slot 19): assign
  refine MonoR.step (Pv.eq (.int .i64 1)) [(8, 139)] (by kernel_rfl) (fun w' hw' => ?_) ?_
  · rintro _ rfl
    refine ask_do rfl fun K hK => ?_
    go_simp
    exact hK _ _ rfl rfl (World.grownBy.refl _ none)
  intro w16 hww16
  intro _ _
  intro _ _
  intro _ _
  intro _ _
  intro _ _
  intro _ _
  intro _ _
  intro _ _
  intro _ _
  intro _ _
  rintro _ rfl
  simp only [Act.put, List.setIfInBounds_toArray, List.set_cons_zero, List.set_cons_succ]
  have HBd : Hid (Bk w16 w2.heap.size 24 ps.cells) := Lib.hid (Bk.grown HB.out hww16 (by simp))
  have HGd : Hid (w.grownBy w16 none) := Lib.hid ((HG.out).trans hww16)
  have HS2d : Hid (Sl (encD) TT w16 v2 [(1, [[4, 1], [1, 4]]), (2, [[9, 1], [1, 1]])]) := Lib.hid (Sl.kept HS2.out hww16)
  have HS5d : Hid (Sl (encP) TT w16 v5 [(12, 3), (0, 0)]) := Lib.hid (Sl.kept HS5.out hww16)
  have HBod : Hid (Bk w16 w10.heap.size 24 podd.cells) := Lib.hid (Bk.grown HBo.out hww16 (by simp))
  have HBfd : Hid (Bk w16 (w10.heap.size + 1) 24 pflat.cells) := Lib.hid (Bk.grown HBf.out hww16 (by simp))
  have HBwd : Hid (Bk w16 (w10.heap.size + 1 + 1) 24 pfew.cells) := Lib.hid (Bk.grown HBw.out hww16 (by simp))
  have HS11d : Hid (Sl (encD) TT w16 v11 [(1, [[4, 1], [1]])]) := Lib.hid (Sl.kept HS11.out hww16)
  clear HB
  have HB := HBd
  clear HBd
  clear HG
  have HG := HGd
  clear HGd
  clear HS2
  have HS2 := HS2d
  clear HS2d
  clear HS5
  have HS5 := HS5d
  clear HS5d
  clear HBo
  have HBo := HBod
  clear HBod
  clear HBf
  have HBf := HBfd
  clear HBfd
  clear HBw
  have HBw := HBwd
  clear HBwd
  clear HS11
  have HS11 := HS11d
  clear HS11d
  clear hww16
  refine wpList_nil ?_
  go_upto_region 23 with (fail)
  refine wp_region_seqm 10 (by kernel_rfl) ?_
  -- op 0 (slot 141): load
  refine MonoR.step (Pv.eq (podd.v)) [] (by kernel_rfl) (fun w' hw' => ?_) ?_
  · refine ask_do rfl fun K hK => ?_
    have hp := (HBo.out.grown hw' (by simp)).prule
    go_simp
    exact hK _ _ rfl rfl (World.grownBy.refl _ none)
  -- op 1 (slot 142): buildSlice
  refine MonoR.step (Pv.sl (encI) TT [1]) [] (by kernel_rfl) (fun w' hw' => ?_) ?_
  · refine ask_do rfl fun K hK => ?_
    go_simp
    exact hK _ _ rfl (Sl.build [[.int .i64 1]] rfl ⟨⟨rfl, ⟨by decide, by decide⟩⟩, trivial⟩ rfl (by decide)) (World.grownBy_alloc w' _ none)
  -- op 2 (slot 143): move
  refine MonoR.step (Pv.sl (encP) TT [(12, 3), (0, 0)]) [] (by kernel_rfl) (fun w' hw' => ?_) ?_
  · refine ask_do rfl fun K hK => ?_
    go_simp
    exact hK _ _ rfl (HS5.out.kept hw') (World.grownBy.refl _ none)
  -- op 3 (slot 144): buildSlice
  refine MonoR.step (Pv.sl (encS encP) TT [[(12, 3), (0, 0)]]) [(2, 143)] (by kernel_rfl) (fun w' hw' => ?_) ?_
  · intro x143 h143
    have h143 : Sl (encP) TT w' x143 [(12, 3), (0, 0)] := h143
    obtain ⟨A143, c143, e143, k143, l143⟩ := h143.form
    have e143 : x143 = .slice A143 2 c143 := e143
    subst e143
    refine ask_do rfl fun K hK => ?_
    go_simp
    exact hK _ _ rfl (Sl.build [[.slice A143 2 c143]] rfl ⟨⟨_, rfl, h143⟩, trivial⟩ rfl (by decide)) (World.grownBy_alloc w' _ none)
  -- op 4 (slot 145): call
  refine MonoR.step (Pv.tup (encP) [] 1) [(0, 141), (1, 142), (3, 144)] (by kernel_rfl) (fun w' hw' => ?_) ?_
  · rintro _ rfl
    intro x142 h142
    have h142 : Sl (encI) TT w' x142 [1] := h142
    intro x144 h144
    have h144 : Sl (encS encP) TT w' x144 [[(12, 3), (0, 0)]] := h144
    refine ask_do rfl fun K hK => ?_
    go_simp
    refine (sum_any podd _ [1] _ [[(12, 3), (0, 0)]] TT TT w' podd_ok h142 h144 (by decide) (by decide)).mono ?_
    rintro e w3 ⟨v3, he, h3, hg⟩
    rw [(show sumE podd [1] [[(12, 3), (0, 0)]] = 1 by rw [sumE_eq]; decide +kernel)] at he
    rw [(show sumL podd [1] [[(12, 3), (0, 0)]] = [] by rw [sumL_eq]; decide +kernel)] at h3
    subst he
    exact hK _ _ rfl ⟨_, rfl, h3.more (fun _ _ _ => trivial)⟩ hg
  -- op 5 (slot 140): move
  refine MonoR.step (Pv.tup (encP) [] 1) [(4, 145)] (by kernel_rfl) (fun w' hw' => ?_) ?_
  · intro x145 q145
    obtain ⟨u145, e145, h145⟩ : ∃ u, x145 = .tuple #[u, .int .i64 1] ∧ Sl (encP) TT w' u [] := q145
    subst e145
    refine ask_do rfl fun K hK => ?_
    go_simp
    exact hK _ _ rfl ⟨_, rfl, h145⟩ (World.grownBy.refl _ none)
  -- op 6 (slot 146): extract
  refine MonoR.step (Pv.sl (encP) TT []) [(5, 140)] (by kernel_rfl) (fun w' hw' => ?_) ?_
  · intro x140 q140
    obtain ⟨u140, e140, h140⟩ : ∃ u, x140 = .tuple #[u, .int .i64 1] ∧ Sl (encP) TT w' u [] := q140
    subst e140
    refine ask_do rfl fun K hK => ?_
    go_simp
    exact hK _ _ rfl h140 (World.grownBy.refl _ none)
  -- op 7 (slot 147): extract
  refine MonoR.step (Pv.eq (.int .i64 1)) [(5, 140)] (by kernel_rfl) (fun w' hw' => ?_) ?_
  · intro x140 q140
    obtain ⟨u140, e140, h140⟩ : ∃ u, x140 = .tuple #[u, .int .i64 1] ∧ Sl (encP) TT w' u [] := q140
    subst e140
    refine ask_do rfl fun K hK => ?_
    go_simp
    exact hK _ _ rfl rfl (World.grownBy.refl _ none)
  -- op 8 (slot 20): assign
  refine MonoR.step (Pv.sl (encP) TT []) [(6, 146)] (by kernel_rfl) (fun w' hw' => ?_) ?_
  · intro x146 h146
    have h146 : Sl (encP) TT w' x146 [] := h146
    refine ask_do rfl fun K hK => ?_
    go_simp
    exact hK _ _ rfl h146 (World.grownBy.refl _ none)
  -- op 9 (slot 21): assign
  refine MonoR.step (Pv.eq (.int .i64 1)) [(7, 147)] (by kernel_rfl) (fun w' hw' => ?_) ?_
  · rintro _ rfl
    refine ask_do rfl fun K hK => ?_
    go_simp
    exact hK _ _ rfl rfl (World.grownBy.refl _ none)
  intro w17 hww17
  intro _ _
  intro _ _
  intro _ _
  intro _ _
  intro _ _
  intro _ _
  intro _ _
  intro _ _
  intro _ _
  rintro _ rfl
  simp only [Act.put, List.setIfInBounds_toArray, List.set_cons_zero, List.set_cons_succ]
  have HBd : Hid (Bk w17 w2.heap.size 24 ps.cells) := Lib.hid (Bk.grown HB.out hww17 (by simp))
  have HGd : Hid (w.grownBy w17 none) := Lib.hid ((HG.out).trans hww17)
  have HS2d : Hid (Sl (encD) TT w17 v2 [(1, [[4, 1], [1, 4]]), (2, [[9, 1], [1, 1]])]) := Lib.hid (Sl.kept HS2.out hww17)
  have HS5d : Hid (Sl (encP) TT w17 v5 [(12, 3), (0, 0)]) := Lib.hid (Sl.kept HS5.out hww17)
  have HBod : Hid (Bk w17 w10.heap.size 24 podd.cells) := Lib.hid (Bk.grown HBo.out hww17 (by simp))
  have HBfd : Hid (Bk w17 (w10.heap.size + 1) 24 pflat.cells) := Lib.hid (Bk.grown HBf.out hww17 (by simp))
  have HBwd : Hid (Bk w17 (w10.heap.size + 1 + 1) 24 pfew.cells) := Lib.hid (Bk.grown HBw.out hww17 (by simp))
  have HS11d : Hid (Sl (encD) TT w17 v11 [(1, [[4, 1], [1]])]) := Lib.hid (Sl.kept HS11.out hww17)
  clear HB
  have HB := HBd
  clear HBd
  clear HG
  have HG := HGd
  clear HGd
  clear HS2
  have HS2 := HS2d
  clear HS2d
  clear HS5
  have HS5 := HS5d
  clear HS5d
  clear HBo
  have HBo := HBod
  clear HBod
  clear HBf
  have HBf := HBfd
  clear HBfd
  clear HBw
  have HBw := HBwd
  clear HBwd
  clear HS11
  have HS11 := HS11d
  clear HS11d
  clear hww17
  refine wpList_nil ?_
  go_upto_region 24 with (fail)
  refine wp_region_seqm 10 (by kernel_rfl) ?_
  -- op 0 (slot 149): load
  refine MonoR.step (Pv.eq (pflat.v)) [] (by kernel_rfl) (fun w' hw' => ?_) ?_
  · refine ask_do rfl fun K hK => ?_
    have hp := (HBf.out.grown hw' (by simp)).prule
    go_simp
    exact hK _ _ rfl rfl (World.grownBy.refl _ none)
  -- op 1 (slot 150): buildSlice
  refine MonoR.step (Pv.sl (encI) TT [1]) [] (by kernel_rfl) (fun w' hw' => ?_) ?_
  · refine ask_do rfl fun K hK => ?_
    go_simp
    exact hK _ _ rfl (Sl.build [[.int .i64 1]] rfl ⟨⟨rfl, ⟨by decide, by decide⟩⟩, trivial⟩ rfl (by decide)) (World.grownBy_alloc w' _ none)
  -- op 2 (slot 151): move
  refine MonoR.step (Pv.sl (encP) TT [(12, 3), (0, 0)]) [] (by kernel_rfl) (fun w' hw' => ?_) ?_
  · refine ask_do rfl fun K hK => ?_
    go_simp
    exact hK _ _ rfl (HS5.out.kept hw') (World.grownBy.refl _ none)
  -- op 3 (slot 152): buildSlice
  refine MonoR.step (Pv.sl (encS encP) TT [[(12, 3), (0, 0)]]) [(2, 151)] (by kernel_rfl) (fun w' hw' => ?_) ?_
  · intro x151 h151
    have h151 : Sl (encP) TT w' x151 [(12, 3), (0, 0)] := h151
    obtain ⟨A151, c151, e151, k151, l151⟩ := h151.form
    have e151 : x151 = .slice A151 2 c151 := e151
    subst e151
    refine ask_do rfl fun K hK => ?_
    go_simp
    exact hK _ _ rfl (Sl.build [[.slice A151 2 c151]] rfl ⟨⟨_, rfl, h151⟩, trivial⟩ rfl (by decide)) (World.grownBy_alloc w' _ none)
  -- op 4 (slot 153): call
  refine MonoR.step (Pv.tup (encP) [] 1) [(0, 149), (1, 150), (3, 152)] (by kernel_rfl) (fun w' hw' => ?_) ?_
  · rintro _ rfl
    intro x150 h150
    have h150 : Sl (encI) TT w' x150 [1] := h150
    intro x152 h152
    have h152 : Sl (encS encP) TT w' x152 [[(12, 3), (0, 0)]] := h152
    refine ask_do rfl fun K hK => ?_
    go_simp
    refine (sum_any pflat _ [1] _ [[(12, 3), (0, 0)]] TT TT w' pflat_ok h150 h152 (by decide) (by decide)).mono ?_
    rintro e w3 ⟨v3, he, h3, hg⟩
    rw [(show sumE pflat [1] [[(12, 3), (0, 0)]] = 1 by rw [sumE_eq]; decide +kernel)] at he
    rw [(show sumL pflat [1] [[(12, 3), (0, 0)]] = [] by rw [sumL_eq]; decide +kernel)] at h3
    subst he
    exact hK _ _ rfl ⟨_, rfl, h3.more (fun _ _ _ => trivial)⟩ hg
  -- op 5 (slot 148): move
  refine MonoR.step (Pv.tup (encP) [] 1) [(4, 153)] (by kernel_rfl) (fun w' hw' => ?_) ?_
  · intro x153 q153
    obtain ⟨u153, e153, h153⟩ : ∃ u, x153 = .tuple #[u, .int .i64 1] ∧ Sl (encP) TT w' u [] := q153
    subst e153
    refine ask_do rfl fun K hK => ?_
    go_simp
    exact hK _ _ rfl ⟨_, rfl, h153⟩ (World.grownBy.refl _ none)
  -- op 6 (slot 154): extract
  refine MonoR.step (Pv.sl (encP) TT []) [(5, 148)] (by kernel_rfl) (fun w' hw' => ?_) ?_
  · intro x148 q148
    obtain ⟨u148, e148, h148⟩ : ∃ u, x148 = .tuple #[u, .int .i64 1] ∧ Sl (encP) TT w' u [] := q148
    subst e148
    refine ask_do rfl fun K hK => ?_
    go_simp
    exact hK _ _ rfl h148 (World.grownBy.refl _ none)
  -- op 7 (slot 155): extract
  refine MonoR.step (Pv.eq (.int .i64 1)) [(5, 148)] (by kernel_rfl) (fun w' hw' => ?_) ?_
  · intro x148 q148
    obtain ⟨u148, e148, h148⟩ : ∃ u, x148 = .tuple #[u, .int .i64 1] ∧ Sl (encP) TT w' u [] := q148
    subst e148
    refine ask_do rfl fun K hK => ?_
    go_simp
    exact hK _ _ rfl rfl (World.grownBy.refl _ none)
  -- op 8 (slot 22): assign
  refine MonoR.step (Pv.sl (encP) TT []) [(6, 154)] (by kernel_rfl) (fun w' hw' => ?_) ?_
  · intro x154 h154
    have h154 : Sl (encP) TT w' x154 [] := h154
    refine ask_do rfl fun K hK => ?_
    go_simp
    exact hK _ _ rfl h154 (World.grownBy.refl _ none)
  -- op 9 (slot 23): assign
  refine MonoR.step (Pv.eq (.int .i64 1)) [(7, 155)] (by kernel_rfl) (fun w' hw' => ?_) ?_
  · rintro _ rfl
    refine ask_do rfl fun K hK => ?_
    go_simp
    exact hK _ _ rfl rfl (World.grownBy.refl _ none)
  intro w18 hww18
  intro _ _
  intro _ _
  intro _ _
  intro _ _
  intro _ _
  intro _ _
  intro _ _
  intro _ _
  intro _ _
  rintro _ rfl
  simp only [Act.put, List.setIfInBounds_toArray, List.set_cons_zero, List.set_cons_succ]
  have HBd : Hid (Bk w18 w2.heap.size 24 ps.cells) := Lib.hid (Bk.grown HB.out hww18 (by simp))
  have HGd : Hid (w.grownBy w18 none) := Lib.hid ((HG.out).trans hww18)
  have HS2d : Hid (Sl (encD) TT w18 v2 [(1, [[4, 1], [1, 4]]), (2, [[9, 1], [1, 1]])]) := Lib.hid (Sl.kept HS2.out hww18)
  have HS5d : Hid (Sl (encP) TT w18 v5 [(12, 3), (0, 0)]) := Lib.hid (Sl.kept HS5.out hww18)
  have HBod : Hid (Bk w18 w10.heap.size 24 podd.cells) := Lib.hid (Bk.grown HBo.out hww18 (by simp))
  have HBfd : Hid (Bk w18 (w10.heap.size + 1) 24 pflat.cells) := Lib.hid (Bk.grown HBf.out hww18 (by simp))
  have HBwd : Hid (Bk w18 (w10.heap.size + 1 + 1) 24 pfew.cells) := Lib.hid (Bk.grown HBw.out hww18 (by simp))
  have HS11d : Hid (Sl (encD) TT w18 v11 [(1, [[4, 1], [1]])]) := Lib.hid (Sl.kept HS11.out hww18)
  clear HB
  have HB := HBd
  clear HBd
  clear HG
  have HG := HGd
  clear HGd
  clear HS2
  have HS2 := HS2d
  clear HS2d
  clear HS5
  have HS5 := HS5d
  clear HS5d
  clear HBo
  have HBo := HBod
  clear HBod
  clear HBf
  have HBf := HBfd
  clear HBfd
  clear HBw
  have HBw := HBwd
  clear HBwd
  clear HS11
  have HS11 := HS11d
  clear HS11d
  clear hww18
  refine wpList_nil ?_
  go_upto_region 25 with (fail)
  refine wp_region_seqm 11 (by kernel_rfl) ?_
  -- op 0 (slot 157): load
  refine MonoR.step (Pv.eq (pfew.v)) [] (by kernel_rfl) (fun w' hw' => ?_) ?_
  · refine ask_do rfl fun K hK => ?_
    have hp := (HBw.out.grown hw' (by simp)).prule
    go_simp
    exact hK _ _ rfl rfl (World.grownBy.refl _ none)
  -- op 1 (slot 158): buildSlice
  refine MonoR.step (Pv.sl (encI) TT [1, 6]) [] (by kernel_rfl) (fun w' hw' => ?_) ?_
  · refine ask_do rfl fun K hK => ?_
    go_simp
    exact hK _ _ rfl (Sl.build [[.int .i64 1], [.int .i64 6]] rfl ⟨⟨rfl, ⟨by decide, by decide⟩⟩, ⟨rfl, ⟨by decide, by decide⟩⟩, trivial⟩ rfl (by decide)) (World.grownBy_alloc w' _ none)
  -- op 2 (slot 159): move
  refine MonoR.step (Pv.sl (encP) TT [(12, 3), (0, 0)]) [] (by kernel_rfl) (fun w' hw' => ?_) ?_
  · refine ask_do rfl fun K hK => ?_
    go_simp
    exact hK _ _ rfl (HS5.out.kept hw') (World.grownBy.refl _ none)
  -- op 3 (slot 160): move
  refine MonoR.step (Pv.sl (encP) TT [(12, 3), (0, 0)]) [] (by kernel_rfl) (fun w' hw' => ?_) ?_
  · refine ask_do rfl fun K hK => ?_
    go_simp
    exact hK _ _ rfl (HS5.out.kept hw') (World.grownBy.refl _ none)
  -- op 4 (slot 161): buildSlice
  refine MonoR.step (Pv.sl (encS encP) TT [[(12, 3), (0, 0)], [(12, 3), (0, 0)]]) [(2, 159), (3, 160)] (by kernel_rfl) (fun w' hw' => ?_) ?_
  · intro x159 h159
    have h159 : Sl (encP) TT w' x159 [(12, 3), (0, 0)] := h159
    obtain ⟨A159, c159, e159, k159, l159⟩ := h159.form
    have e159 : x159 = .slice A159 2 c159 := e159
    subst e159
    intro x160 h160
    have h160 : Sl (encP) TT w' x160 [(12, 3), (0, 0)] := h160
    obtain ⟨A160, c160, e160, k160, l160⟩ := h160.form
    have e160 : x160 = .slice A160 2 c160 := e160
    subst e160
    refine ask_do rfl fun K hK => ?_
    go_simp
    exact hK _ _ rfl (Sl.build [[.slice A159 2 c159], [.slice A160 2 c160]] rfl ⟨⟨_, rfl, h159⟩, ⟨_, rfl, h160⟩, trivial⟩ rfl (by decide)) (World.grownBy_alloc w' _ none)
  -- op 5 (slot 162): call
  refine MonoR.step (Pv.tup (encP) [] 6) [(0, 157), (1, 158), (4, 161)] (by kernel_rfl) (fun w' hw' => ?_) ?_
  · rintro _ rfl
    intro x158 h158
    have h158 : Sl (encI) TT w' x158 [1, 6] := h158
    intro x161 h161
    have h161 : Sl (encS encP) TT w' x161 [[(12, 3), (0, 0)], [(12, 3), (0, 0)]] := h161
    refine ask_do rfl fun K hK => ?_
    go_simp
    refine (sum_any pfew _ [1, 6] _ [[(12, 3), (0, 0)], [(12, 3), (0, 0)]] TT TT w' pfew_ok h158 h161 (by decide) (by decide)).mono ?_
    rintro e w3 ⟨v3, he, h3, hg⟩
    rw [(show sumE pfew [1, 6] [[(12, 3), (0, 0)], [(12, 3), (0, 0)]] = 6 by rw [sumE_eq]; decide +kernel)] at he
    rw [(show sumL pfew [1, 6] [[(12, 3), (0, 0)], [(12, 3), (0, 0)]] = [] by rw [sumL_eq]; decide +kernel)] at h3
    subst he
    exact hK _ _ rfl ⟨_, rfl, h3.more (fun _ _ _ => trivial)⟩ hg
  -- op 6 (slot 156): move
  refine MonoR.step (Pv.tup (encP) [] 6) [(5, 162)] (by kernel_rfl) (fun w' hw' => ?_) ?_
  · intro x162 q162
    obtain ⟨u162, e162, h162⟩ : ∃ u, x162 = .tuple #[u, .int .i64 6] ∧ Sl (encP) TT w' u [] := q162
    subst e162
    refine ask_do rfl fun K hK => ?_
    go_simp
    exact hK _ _ rfl ⟨_, rfl, h162⟩ (World.grownBy.refl _ none)
  -- op 7 (slot 163): extract
  refine MonoR.step (Pv.sl (encP) TT []) [(6, 156)] (by kernel_rfl) (fun w' hw' => ?_) ?_
  · intro x156 q156
    obtain ⟨u156, e156, h156⟩ : ∃ u, x156 = .tuple #[u, .int .i64 6] ∧ Sl (encP) TT w' u [] := q156
    subst e156
    refine ask_do rfl fun K hK => ?_
    go_simp
    exact hK _ _ rfl h156 (World.grownBy.refl _ none)
  -- op 8 (slot 164): extract
  refine MonoR.step (Pv.eq (.int .i64 6)) [(6, 156)] (by kernel_rfl) (fun w' hw' => ?_) ?_
  · intro x156 q156
    obtain ⟨u156, e156, h156⟩ : ∃ u, x156 = .tuple #[u, .int .i64 6] ∧ Sl (encP) TT w' u [] := q156
    subst e156
    refine ask_do rfl fun K hK => ?_
    go_simp
    exact hK _ _ rfl rfl (World.grownBy.refl _ none)
  -- op 9 (slot 24): assign
  refine MonoR.step (Pv.sl (encP) TT []) [(7, 163)] (by kernel_rfl) (fun w' hw' => ?_) ?_
  · intro x163 h163
    have h163 : Sl (encP) TT w' x163 [] := h163
    refine ask_do rfl fun K hK => ?_
    go_simp
    exact hK _ _ rfl h163 (World.grownBy.refl _ none)
  -- op 10 (slot 25): assign
  refine MonoR.step (Pv.eq (.int .i64 6)) [(8, 164)] (by kernel_rfl) (fun w' hw' => ?_) ?_
  · rintro _ rfl
    refine ask_do rfl fun K hK => ?_
    go_simp
    exact hK _ _ rfl rfl (World.grownBy.refl _ none)
  intro w19 hww19
  intro _ _
  intro _ _
  intro _ _
  intro _ _
  intro _ _
  intro _ _
  intro _ _
  intro _ _
  intro _ _
  intro _ _
  rintro _ rfl
  simp only [Act.put, List.setIfInBounds_toArray, List.set_cons_zero, List.set_cons_succ]
  have HBd : Hid (Bk w19 w2.heap.size 24 ps.cells) := Lib.hid (Bk.grown HB.out hww19 (by simp))
  have HGd : Hid (w.grownBy w19 none) := Lib.hid ((HG.out).trans hww19)
  have HS2d : Hid (Sl (encD) TT w19 v2 [(1, [[4, 1], [1, 4]]), (2, [[9, 1], [1, 1]])]) := Lib.hid (Sl.kept HS2.out hww19)
  have HS5d : Hid (Sl (encP) TT w19 v5 [(12, 3), (0, 0)]) := Lib.hid (Sl.kept HS5.out hww19)
  have HBod : Hid (Bk w19 w10.heap.size 24 podd.cells) := Lib.hid (Bk.grown HBo.out hww19 (by simp))
  have HBfd : Hid (Bk w19 (w10.heap.size + 1) 24 pflat.cells) := Lib.hid (Bk.grown HBf.out hww19 (by simp))
  have HBwd : Hid (Bk w19 (w10.heap.size + 1 + 1) 24 pfew.cells) := Lib.hid (Bk.grown HBw.out hww19 (by simp))
  have HS11d : Hid (Sl (encD) TT w19 v11 [(1, [[4, 1], [1]])]) := Lib.hid (Sl.kept HS11.out hww19)
  clear HB
  have HB := HBd
  clear HBd
  clear HG
  have HG := HGd
  clear HGd
  clear HS2
  have HS2 := HS2d
  clear HS2d
  clear HS5
  have HS5 := HS5d
  clear HS5d
  clear HBo
  have HBo := HBod
  clear HBod
  clear HBf
  have HBf := HBfd
  clear HBfd
  clear HBw
  have HBw := HBwd
  clear HBwd
  clear HS11
  have HS11 := HS11d
  clear HS11d
  clear hww19
  refine wpList_nil ?_
  go_upto_region 26 with (fail)
  refine wp_region_seqm 7 (by kernel_rfl) ?_
  -- op 0 (slot 166): load
  refine MonoR.step (Pv.eq (ps.v)) [] (by kernel_rfl) (fun w' hw' => ?_) ?_
  · refine ask_do rfl fun K hK => ?_
    have hp := (HB.out.grown hw' (by simp)).prule
    go_simp
    exact hK _ _ rfl rfl (World.grownBy.refl _ none)
  -- op 1 (slot 167): call
  refine MonoR.step (Pv.tup (encS encU) [] 1) [(0, 166)] (by kernel_rfl) (fun w' hw' => ?_) ?_
  · rintro _ rfl
    refine ask_do rfl fun K hK => ?_
    go_simp
    refine (scoms_any ps _ [] TT w' ps_ok (Sl.nil _ TT w') (by decide) (by decide)).mono ?_
    rintro e w3 ⟨v3, he, h3, hg⟩
    rw [(show comsE ps [] = 1 by rw [comsE_eq]; decide +kernel)] at he
    rw [(show comsL ps [] = [] by rw [comsL_eq]; decide +kernel)] at h3
    subst he
    exact hK _ _ rfl ⟨_, rfl, h3.more (fun _ _ _ => trivial)⟩ hg
  -- op 2 (slot 165): move
  refine MonoR.step (Pv.tup (encS encU) [] 1) [(1, 167)] (by kernel_rfl) (fun w' hw' => ?_) ?_
  · intro x167 q167
    obtain ⟨u167, e167, h167⟩ : ∃ u, x167 = .tuple #[u, .int .i64 1] ∧ Sl (encS encU) TT w' u [] := q167
    subst e167
    refine ask_do rfl fun K hK => ?_
    go_simp
    exact hK _ _ rfl ⟨_, rfl, h167⟩ (World.grownBy.refl _ none)
  -- op 3 (slot 168): extract
  refine MonoR.step (Pv.sl (encS encU) TT []) [(2, 165)] (by kernel_rfl) (fun w' hw' => ?_) ?_
  · intro x165 q165
    obtain ⟨u165, e165, h165⟩ : ∃ u, x165 = .tuple #[u, .int .i64 1] ∧ Sl (encS encU) TT w' u [] := q165
    subst e165
    refine ask_do rfl fun K hK => ?_
    go_simp
    exact hK _ _ rfl h165 (World.grownBy.refl _ none)
  -- op 4 (slot 169): extract
  refine MonoR.step (Pv.eq (.int .i64 1)) [(2, 165)] (by kernel_rfl) (fun w' hw' => ?_) ?_
  · intro x165 q165
    obtain ⟨u165, e165, h165⟩ : ∃ u, x165 = .tuple #[u, .int .i64 1] ∧ Sl (encS encU) TT w' u [] := q165
    subst e165
    refine ask_do rfl fun K hK => ?_
    go_simp
    exact hK _ _ rfl rfl (World.grownBy.refl _ none)
  -- op 5 (slot 26): assign
  refine MonoR.step (Pv.sl (encS encU) TT []) [(3, 168)] (by kernel_rfl) (fun w' hw' => ?_) ?_
  · intro x168 h168
    have h168 : Sl (encS encU) TT w' x168 [] := h168
    refine ask_do rfl fun K hK => ?_
    go_simp
    exact hK _ _ rfl h168 (World.grownBy.refl _ none)
  -- op 6 (slot 27): assign
  refine MonoR.step (Pv.eq (.int .i64 1)) [(4, 169)] (by kernel_rfl) (fun w' hw' => ?_) ?_
  · rintro _ rfl
    refine ask_do rfl fun K hK => ?_
    go_simp
    exact hK _ _ rfl rfl (World.grownBy.refl _ none)
  intro w20 hww20
  intro _ _
  intro _ _
  intro _ _
  intro _ _
  intro _ _
  intro _ _
  rintro _ rfl
  simp only [Act.put, List.setIfInBounds_toArray, List.set_cons_zero, List.set_cons_succ]
  have HBd : Hid (Bk w20 w2.heap.size 24 ps.cells) := Lib.hid (Bk.grown HB.out hww20 (by simp))
  have HGd : Hid (w.grownBy w20 none) := Lib.hid ((HG.out).trans hww20)
  have HS2d : Hid (Sl (encD) TT w20 v2 [(1, [[4, 1], [1, 4]]), (2, [[9, 1], [1, 1]])]) := Lib.hid (Sl.kept HS2.out hww20)
  have HS5d : Hid (Sl (encP) TT w20 v5 [(12, 3), (0, 0)]) := Lib.hid (Sl.kept HS5.out hww20)
  have HBod : Hid (Bk w20 w10.heap.size 24 podd.cells) := Lib.hid (Bk.grown HBo.out hww20 (by simp))
  have HBfd : Hid (Bk w20 (w10.heap.size + 1) 24 pflat.cells) := Lib.hid (Bk.grown HBf.out hww20 (by simp))
  have HBwd : Hid (Bk w20 (w10.heap.size + 1 + 1) 24 pfew.cells) := Lib.hid (Bk.grown HBw.out hww20 (by simp))
  have HS11d : Hid (Sl (encD) TT w20 v11 [(1, [[4, 1], [1]])]) := Lib.hid (Sl.kept HS11.out hww20)
  clear HB
  have HB := HBd
  clear HBd
  clear HG
  have HG := HGd
  clear HGd
  clear HS2
  have HS2 := HS2d
  clear HS2d
  clear HS5
  have HS5 := HS5d
  clear HS5d
  clear HBo
  have HBo := HBod
  clear HBod
  clear HBf
  have HBf := HBfd
  clear HBfd
  clear HBw
  have HBw := HBwd
  clear HBwd
  clear HS11
  have HS11 := HS11d
  clear HS11d
  clear hww20
  refine wpList_nil ?_
  go_upto_region 27 with (fail)
  refine wp_region_seqm 8 (by kernel_rfl) ?_
  -- op 0 (slot 171): load
  refine MonoR.step (Pv.eq (ps.v)) [] (by kernel_rfl) (fun w' hw' => ?_) ?_
  · refine ask_do rfl fun K hK => ?_
    have hp := (HB.out.grown hw' (by simp)).prule
    go_simp
    exact hK _ _ rfl rfl (World.grownBy.refl _ none)
  -- op 1 (slot 172): move
  refine MonoR.step (Pv.sl (encD) TT [(1, [[4, 1], [1]])]) [] (by kernel_rfl) (fun w' hw' => ?_) ?_
  · refine ask_do rfl fun K hK => ?_
    go_simp
    exact hK _ _ rfl (HS11.out.kept hw') (World.grownBy.refl _ none)
  -- op 2 (slot 173): call
  refine MonoR.step (Pv.tup (encS encU) [] 1) [(0, 171), (1, 172)] (by kernel_rfl) (fun w' hw' => ?_) ?_
  · rintro _ rfl
    intro x172 h172
    have h172 : Sl (encD) TT w' x172 [(1, [[4, 1], [1]])] := h172
    refine ask_do rfl fun K hK => ?_
    go_simp
    refine (scoms_any ps _ [(1, [[4, 1], [1]])] TT w' ps_ok h172 (by decide) (by decide)).mono ?_
    rintro e w3 ⟨v3, he, h3, hg⟩
    rw [(show comsE ps [(1, [[4, 1], [1]])] = 1 by rw [comsE_eq]; decide +kernel)] at he
    rw [(show comsL ps [(1, [[4, 1], [1]])] = [] by rw [comsL_eq]; decide +kernel)] at h3
    subst he
    exact hK _ _ rfl ⟨_, rfl, h3.more (fun _ _ _ => trivial)⟩ hg
  -- op 3 (slot 170): move
  refine MonoR.step (Pv.tup (encS encU) [] 1) [(2, 173)] (by kernel_rfl) (fun w' hw' => ?_) ?_
  · intro x173 q173
    obtain ⟨u173, e173, h173⟩ : ∃ u, x173 = .tuple #[u, .int .i64 1] ∧ Sl (encS encU) TT w' u [] := q173
    subst e173
    refine ask_do rfl fun K hK => ?_
    go_simp
    exact hK _ _ rfl ⟨_, rfl, h173⟩ (World.grownBy.refl _ none)
  -- op 4 (slot 174): extract
  refine MonoR.step (Pv.sl (encS encU) TT []) [(3, 170)] (by kernel_rfl) (fun w' hw' => ?_) ?_
  · intro x170 q170
    obtain ⟨u170, e170, h170⟩ : ∃ u, x170 = .tuple #[u, .int .i64 1] ∧ Sl (encS encU) TT w' u [] := q170
    subst e170
    refine ask_do rfl fun K hK => ?_
    go_simp
    exact hK _ _ rfl h170 (World.grownBy.refl _ none)
  -- op 5 (slot 175): extract
  refine MonoR.step (Pv.eq (.int .i64 1)) [(3, 170)] (by kernel_rfl) (fun w' hw' => ?_) ?_
  · intro x170 q170
    obtain ⟨u170, e170, h170⟩ : ∃ u, x170 = .tuple #[u, .int .i64 1] ∧ Sl (encS encU) TT w' u [] := q170
    subst e170
    refine ask_do rfl fun K hK => ?_
    go_simp
    exact hK _ _ rfl rfl (World.grownBy.refl _ none)
  -- op 6 (slot 28): assign
  refine MonoR.step (Pv.sl (encS encU) TT []) [(4, 174)] (by kernel_rfl) (fun w' hw' => ?_) ?_
  · intro x174 h174
    have h174 : Sl (encS encU) TT w' x174 [] := h174
    refine ask_do rfl fun K hK => ?_
    go_simp
    exact hK _ _ rfl h174 (World.grownBy.refl _ none)
  -- op 7 (slot 29): assign
  refine MonoR.step (Pv.eq (.int .i64 1)) [(5, 175)] (by kernel_rfl) (fun w' hw' => ?_) ?_
  · rintro _ rfl
    refine ask_do rfl fun K hK => ?_
    go_simp
    exact hK _ _ rfl rfl (World.grownBy.refl _ none)
  intro w21 hww21
  intro _ _
  intro _ _
  intro _ _
  intro _ _
  intro _ _
  intro _ _
  intro _ _
  rintro _ rfl
  simp only [Act.put, List.setIfInBounds_toArray, List.set_cons_zero, List.set_cons_succ]
  have HBd : Hid (Bk w21 w2.heap.size 24 ps.cells) := Lib.hid (Bk.grown HB.out hww21 (by simp))
  have HGd : Hid (w.grownBy w21 none) := Lib.hid ((HG.out).trans hww21)
  have HS2d : Hid (Sl (encD) TT w21 v2 [(1, [[4, 1], [1, 4]]), (2, [[9, 1], [1, 1]])]) := Lib.hid (Sl.kept HS2.out hww21)
  have HS5d : Hid (Sl (encP) TT w21 v5 [(12, 3), (0, 0)]) := Lib.hid (Sl.kept HS5.out hww21)
  have HBod : Hid (Bk w21 w10.heap.size 24 podd.cells) := Lib.hid (Bk.grown HBo.out hww21 (by simp))
  have HBfd : Hid (Bk w21 (w10.heap.size + 1) 24 pflat.cells) := Lib.hid (Bk.grown HBf.out hww21 (by simp))
  have HBwd : Hid (Bk w21 (w10.heap.size + 1 + 1) 24 pfew.cells) := Lib.hid (Bk.grown HBw.out hww21 (by simp))
  have HS11d : Hid (Sl (encD) TT w21 v11 [(1, [[4, 1], [1]])]) := Lib.hid (Sl.kept HS11.out hww21)
  clear HB
  have HB := HBd
  clear HBd
  clear HG
  have HG := HGd
  clear HGd
  clear HS2
  have HS2 := HS2d
  clear HS2d
  clear HS5
  have HS5 := HS5d
  clear HS5d
  clear HBo
  have HBo := HBod
  clear HBod
  clear HBf
  have HBf := HBfd
  clear HBfd
  clear HBw
  have HBw := HBwd
  clear HBwd
  clear HS11
  have HS11 := HS11d
  clear HS11d
  clear hww21
  refine wpList_nil ?_
  obtain ⟨g2, o2, c2, u2, e2, _, _, hd0, hd1, _, hs2⟩ := HS2.out.atD (k := 0) (by decide)
  have e2 : v2 = .slice (some ⟨g2, o2, none⟩) 2 c2 := e2
  subst e2
  obtain ⟨Au, cu, eu, _, _⟩ := hs2.form
  have eu : u2 = .slice Au 2 cu := eu
  subst eu
  have HD0 : Hid (World.cell? w21 ⟨g2, o2, none⟩ = some (.int .i64 1)) := Lib.hid (by simpa using hd0)
  have HD1 : Hid (World.cell? w21 ⟨g2, o2 + 1, none⟩ = some (.slice Au 2 cu)) := Lib.hid (by simpa using hd1)
  have HU2 : Hid (Sl (encS encU) TT w21 (.slice Au 2 cu) [[4, 1], [1, 4]]) := Lib.hid hs2
  clear hd0 hd1 hs2
  go_upto_region 28 with (fail)
  have HBd : Hid (Bk w21.drew w2.heap.size 24 ps.cells) := Lib.hid (Bk.grown HB.out (grown_drewN' w21 1) (by simp))
  have HGd : Hid (w.grownBy w21.drew none) := Lib.hid ((HG.out).trans (grown_drewN' w21 1))
  have HS2d : Hid (Sl encD TT w21.drew (.slice (some ⟨g2, o2, none⟩) 2 c2) [(1, [[4, 1], [1, 4]]), (2, [[9, 1], [1, 1]])]) := Lib.hid (Sl.kept HS2.out (grown_drewN' w21 1))
  have HS5d : Hid (Sl (encP) TT w21.drew v5 [(12, 3), (0, 0)]) := Lib.hid (Sl.kept HS5.out (grown_drewN' w21 1))
  have HBod : Hid (Bk w21.drew w10.heap.size 24 podd.cells) := Lib.hid (Bk.grown HBo.out (grown_drewN' w21 1) (by simp))
  have HBfd : Hid (Bk w21.drew (w10.heap.size + 1) 24 pflat.cells) := Lib.hid (Bk.grown HBf.out (grown_drewN' w21 1) (by simp))
  have HBwd : Hid (Bk w21.drew (w10.heap.size + 1 + 1) 24 pfew.cells) := Lib.hid (Bk.grown HBw.out (grown_drewN' w21 1) (by simp))
  have HS11d : Hid (Sl (encD) TT w21.drew v11 [(1, [[4, 1], [1]])]) := Lib.hid (Sl.kept HS11.out (grown_drewN' w21 1))
  have HD0d : Hid (World.cell? w21.drew ⟨g2, o2, none⟩ = some (.int .i64 1)) := Lib.hid (cell_kept HD0.out (grown_drewN' w21 1) (by simp))
  have HD1d : Hid (World.cell? w21.drew ⟨g2, o2 + 1, none⟩ = some (.slice Au 2 cu)) := Lib.hid (cell_kept HD1.out (grown_drewN' w21 1) (by simp))
  have HU2d : Hid (Sl (encS encU) TT w21.drew (.slice Au 2 cu) [[4, 1], [1, 4]]) := Lib.hid (Sl.kept HU2.out (grown_drewN' w21 1))
  clear HB
  have HB := HBd
  clear HBd
  clear HG
  have HG := HGd
  clear HGd
  clear HS2
  have HS2 := HS2d
  clear HS2d
  clear HS5
  have HS5 := HS5d
  clear HS5d
  clear HBo
  have HBo := HBod
  clear HBod
  clear HBf
  have HBf := HBfd
  clear HBfd
  clear HBw
  have HBw := HBwd
  clear HBwd
  clear HS11
  have HS11 := HS11d
  clear HS11d
  clear HD0
  have HD0 := HD0d
  clear HD0d
  clear HD1
  have HD1 := HD1d
  clear HD1d
  clear HU2
  have HU2 := HU2d
  clear HU2d
  refine wp_region_mono 14 (by kernel_rfl) (by kernel_rfl) ?_
  -- op 0 (slot 177): load
  refine MonoR.step (Pv.eq (ps.v)) [] (by kernel_rfl) (fun w' hw' => ?_) ?_
  · refine ask_do rfl fun K hK => ?_
    have hp := (HB.out.grown hw' (by simp)).prule
    go_simp
    exact hK _ _ rfl rfl (World.grownBy.refl _ none)
  -- op 1 (slot 178): move
  refine MonoR.step (Pv.eq (.slice (some ⟨g2, o2, none⟩) 2 c2)) [] (by kernel_rfl) (fun w' hw' => ?_) ?_
  · refine ask_do rfl fun K hK => ?_
    go_simp
    exact hK _ _ rfl rfl (World.grownBy.refl _ none)
  -- op 2 (slot 179): indexAddr
  refine MonoR.step (Pv.eq (.pointer (some ⟨g2, o2, none⟩))) [(1, 178)] (by kernel_rfl) (fun w' hw' => ?_) ?_
  · rintro _ rfl
    refine ask_do rfl fun K hK => ?_
    go_simp
    exact hK _ _ rfl rfl (World.grownBy.refl _ none)
  -- op 3 (slot 180): load
  refine MonoR.step (Pv.dealt 1 [[4, 1], [1, 4]]) [(2, 179)] (by kernel_rfl) (fun w' hw' => ?_) ?_
  · rintro _ rfl
    refine ask_do rfl fun K hK => ?_
    have q0 := cell_kept HD0.out hw' (by simp)
    have q1 := cell_kept HD1.out hw' (by simp)
    go_simp
    exact hK _ _ rfl ⟨_, rfl, HU2.out.kept hw'⟩ (World.grownBy.refl _ none)
  -- op 4 (slot 181): move
  refine MonoR.step (Pv.eq (.slice (some ⟨g2, o2, none⟩) 2 c2)) [] (by kernel_rfl) (fun w' hw' => ?_) ?_
  · refine ask_do rfl fun K hK => ?_
    go_simp
    exact hK _ _ rfl rfl (World.grownBy.refl _ none)
  -- op 5 (slot 182): indexAddr
  refine MonoR.step (Pv.eq (.pointer (some ⟨g2, o2, none⟩))) [(4, 181)] (by kernel_rfl) (fun w' hw' => ?_) ?_
  · rintro _ rfl
    refine ask_do rfl fun K hK => ?_
    go_simp
    exact hK _ _ rfl rfl (World.grownBy.refl _ none)
  -- op 6 (slot 183): load
  refine MonoR.step (Pv.dealt 1 [[4, 1], [1, 4]]) [(5, 182)] (by kernel_rfl) (fun w' hw' => ?_) ?_
  · rintro _ rfl
    refine ask_do rfl fun K hK => ?_
    have q0 := cell_kept HD0.out hw' (by simp)
    have q1 := cell_kept HD1.out hw' (by simp)
    go_simp
    exact hK _ _ rfl ⟨_, rfl, HU2.out.kept hw'⟩ (World.grownBy.refl _ none)
  -- op 7 (slot 184): buildSlice
  refine MonoR.step (Pv.sl (encD) TT [(1, [[4, 1], [1, 4]]), (1, [[4, 1], [1, 4]])]) [(3, 180), (6, 183)] (by kernel_rfl) (fun w' hw' => ?_) ?_
  · intro x180 q180
    obtain ⟨u180, e180, h180⟩ : ∃ u, x180 = .agg #[.int .i64 1, u] ∧ Sl (encS encU) TT w' u [[4, 1], [1, 4]] := q180
    subst e180
    obtain ⟨A180, c180, e180, k180, l180⟩ := h180.form
    have e180 : u180 = .slice A180 2 c180 := e180
    subst e180
    intro x183 q183
    obtain ⟨u183, e183, h183⟩ : ∃ u, x183 = .agg #[.int .i64 1, u] ∧ Sl (encS encU) TT w' u [[4, 1], [1, 4]] := q183
    subst e183
    obtain ⟨A183, c183, e183, k183, l183⟩ := h183.form
    have e183 : u183 = .slice A183 2 c183 := e183
    subst e183
    refine ask_do rfl fun K hK => ?_
    go_simp
    exact hK _ _ rfl (Sl.build [[.int .i64 1, .slice A180 2 c180], [.int .i64 1, .slice A183 2 c183]] rfl ⟨⟨_, rfl, ⟨by decide, by decide⟩, h180⟩, ⟨_, rfl, ⟨by decide, by decide⟩, h183⟩, trivial⟩ rfl (by decide)) (World.grownBy_alloc w' _ none)
  -- op 8 (slot 185): call
  refine MonoR.step (Pv.tup (encS encU) [] 6) [(0, 177), (7, 184)] (by kernel_rfl) (fun w' hw' => ?_) ?_
  · rintro _ rfl
    intro x184 h184
    have h184 : Sl (encD) TT w' x184 [(1, [[4, 1], [1, 4]]), (1, [[4, 1], [1, 4]])] := h184
    refine ask_do rfl fun K hK => ?_
    go_simp
    refine (scoms_any ps _ [(1, [[4, 1], [1, 4]]), (1, [[4, 1], [1, 4]])] TT w' ps_ok h184 (by decide) (by decide)).mono ?_
    rintro e w3 ⟨v3, he, h3, hg⟩
    rw [(show comsE ps [(1, [[4, 1], [1, 4]]), (1, [[4, 1], [1, 4]])] = 6 by rw [comsE_eq]; decide +kernel)] at he
    rw [(show comsL ps [(1, [[4, 1], [1, 4]]), (1, [[4, 1], [1, 4]])] = [] by rw [comsL_eq]; decide +kernel)] at h3
    subst he
    exact hK _ _ rfl ⟨_, rfl, h3.more (fun _ _ _ => trivial)⟩ hg
  -- op 9 (slot 176): move
  refine MonoR.step (Pv.tup (encS encU) [] 6) [(8, 185)] (by kernel_rfl) (fun w' hw' => ?_) ?_
  · intro x185 q185
    obtain ⟨u185, e185, h185⟩ : ∃ u, x185 = .tuple #[u, .int .i64 6] ∧ Sl (encS encU) TT w' u [] := q185
    subst e185
    refine ask_do rfl fun K hK => ?_
    go_simp
    exact hK _ _ rfl ⟨_, rfl, h185⟩ (World.grownBy.refl _ none)
  -- op 10 (slot 186): extract
  refine MonoR.step (Pv.sl (encS encU) TT []) [(9, 176)] (by kernel_rfl) (fun w' hw' => ?_) ?_
  · intro x176 q176
    obtain ⟨u176, e176, h176⟩ : ∃ u, x176 = .tuple #[u, .int .i64 6] ∧ Sl (encS encU) TT w' u [] := q176
    subst e176
    refine ask_do rfl fun K hK => ?_
    go_simp
    exact hK _ _ rfl h176 (World.grownBy.refl _ none)
  -- op 11 (slot 187): extract
  refine MonoR.step (Pv.eq (.int .i64 6)) [(9, 176)] (by kernel_rfl) (fun w' hw' => ?_) ?_
  · intro x176 q176
    obtain ⟨u176, e176, h176⟩ : ∃ u, x176 = .tuple #[u, .int .i64 6] ∧ Sl (encS encU) TT w' u [] := q176
    subst e176
    refine ask_do rfl fun K hK => ?_
    go_simp
    exact hK _ _ rfl rfl (World.grownBy.refl _ none)
  -- op 12 (slot 30): assign
  refine MonoR.step (Pv.sl (encS encU) TT []) [(10, 186)] (by kernel_rfl) (fun w' hw' => ?_) ?_
  · intro x186 h186
    have h186 : Sl (encS encU) TT w' x186 [] := h186
    refine ask_do rfl fun K hK => ?_
    go_simp
    exact hK _ _ rfl h186 (World.grownBy.refl _ none)
  -- op 13 (slot 31): assign
  refine MonoR.step (Pv.eq (.int .i64 6)) [(11, 187)] (by kernel_rfl) (fun w' hw' => ?_) ?_
  · rintro _ rfl
    refine ask_do rfl fun K hK => ?_
    go_simp
    exact hK _ _ rfl rfl (World.grownBy.refl _ none)
  intro w22 hww22
  intro _ _
  intro _ _
  intro _ _
  intro _ _
  intro _ _
  intro _ _
  intro _ _
  intro _ _
  intro _ _
  intro _ _
  intro _ _
  intro _ _
  intro _ _
  rintro _ rfl
  simp only [Act.put, List.setIfInBounds_toArray, List.set_cons_zero, List.set_cons_succ]
  have HBd : Hid (Bk w22 w2.heap.size 24 ps.cells) := Lib.hid (Bk.grown HB.out hww22 (by simp))
  have HGd : Hid (w.grownBy w22 none) := Lib.hid ((HG.out).trans hww22)
  have HS2d : Hid (Sl encD TT w22 (.slice (some ⟨g2, o2, none⟩) 2 c2) [(1, [[4, 1], [1, 4]]), (2, [[9, 1], [1, 1]])]) := Lib.hid (Sl.kept HS2.out hww22)
  have HS5d : Hid (Sl (encP) TT w22 v5 [(12, 3), (0, 0)]) := Lib.hid (Sl.kept HS5.out hww22)
  have HBod : Hid (Bk w22 w10.heap.size 24 podd.cells) := Lib.hid (Bk.grown HBo.out hww22 (by simp))
  have HBfd : Hid (Bk w22 (w10.heap.size + 1) 24 pflat.cells) := Lib.hid (Bk.grown HBf.out hww22 (by simp))
  have HBwd : Hid (Bk w22 (w10.heap.size + 1 + 1) 24 pfew.cells) := Lib.hid (Bk.grown HBw.out hww22 (by simp))
  have HS11d : Hid (Sl (encD) TT w22 v11 [(1, [[4, 1], [1]])]) := Lib.hid (Sl.kept HS11.out hww22)
  have HD0d : Hid (World.cell? w22 ⟨g2, o2, none⟩ = some (.int .i64 1)) := Lib.hid (cell_kept HD0.out hww22 (by simp))
  have HD1d : Hid (World.cell? w22 ⟨g2, o2 + 1, none⟩ = some (.slice Au 2 cu)) := Lib.hid (cell_kept HD1.out hww22 (by simp))
  have HU2d : Hid (Sl (encS encU) TT w22 (.slice Au 2 cu) [[4, 1], [1, 4]]) := Lib.hid (Sl.kept HU2.out hww22)
  clear HB
  have HB := HBd
  clear HBd
  clear HG
  have HG := HGd
  clear HGd
  clear HS2
  have HS2 := HS2d
  clear HS2d
  clear HS5
  have HS5 := HS5d
  clear HS5d
  clear HBo
  have HBo := HBod
  clear HBod
  clear HBf
  have HBf := HBfd
  clear HBfd
  clear HBw
  have HBw := HBwd
  clear HBwd
  clear HS11
  have HS11 := HS11d
  clear HS11d
  clear HD0
  have HD0 := HD0d
  clear HD0d
  clear HD1
  have HD1 := HD1d
  clear HD1d
  clear HU2
  have HU2 := HU2d
  clear HU2d
  clear hww22
  refine wpList_nil ?_
  go_upto_region 29 with (fail)
  refine wp_region_seqm 8 (by kernel_rfl) ?_
  -- op 0 (slot 189): load
  refine MonoR.step (Pv.eq (podd.v)) [] (by kernel_rfl) (fun w' hw' => ?_) ?_
  · refine ask_do rfl fun K hK => ?_
    have hp := (HBo.out.grown hw' (by simp)).prule
    go_simp
    exact hK _ _ rfl rfl (World.grownBy.refl _ none)
  -- op 1 (slot 190): move
  refine MonoR.step (Pv.sl (encD) TT [(1, [[4, 1], [1, 4]]), (2, [[9, 1], [1, 1]])]) [] (by kernel_rfl) (fun w' hw' => ?_) ?_
  · refine ask_do rfl fun K hK => ?_
    go_simp
    exact hK _ _ rfl (HS2.out.kept hw') (World.grownBy.refl _ none)
  -- op 2 (slot 191): call
  refine MonoR.step (Pv.tup (encS encU) [] 1) [(0, 189), (1, 190)] (by kernel_rfl) (fun w' hw' => ?_) ?_
  · rintro _ rfl
    intro x190 h190
    have h190 : Sl (encD) TT w' x190 [(1, [[4, 1], [1, 4]]), (2, [[9, 1], [1, 1]])] := h190
    refine ask_do rfl fun K hK => ?_
    go_simp
    refine (scoms_any podd _ [(1, [[4, 1], [1, 4]]), (2, [[9, 1], [1, 1]])] TT w' podd_ok h190 (by decide) (by decide)).mono ?_
    rintro e w3 ⟨v3, he, h3, hg⟩
    rw [(show comsE podd [(1, [[4, 1], [1, 4]]), (2, [[9, 1], [1, 1]])] = 1 by rw [comsE_eq]; decide +kernel)] at he
    rw [(show comsL podd [(1, [[4, 1], [1, 4]]), (2, [[9, 1], [1, 1]])] = [] by rw [comsL_eq]; decide +kernel)] at h3
    subst he
    exact hK _ _ rfl ⟨_, rfl, h3.more (fun _ _ _ => trivial)⟩ hg
  -- op 3 (slot 188): move
  refine MonoR.step (Pv.tup (encS encU) [] 1) [(2, 191)] (by kernel_rfl) (fun w' hw' => ?_) ?_
  · intro x191 q191
    obtain ⟨u191, e191, h191⟩ : ∃ u, x191 = .tuple #[u, .int .i64 1] ∧ Sl (encS encU) TT w' u [] := q191
    subst e191
    refine ask_do rfl fun K hK => ?_
    go_simp
    exact hK _ _ rfl ⟨_, rfl, h191⟩ (World.grownBy.refl _ none)
  -- op 4 (slot 192): extract
  refine MonoR.step (Pv.sl (encS encU) TT []) [(3, 188)] (by kernel_rfl) (fun w' hw' => ?_) ?_
  · intro x188 q188
    obtain ⟨u188, e188, h188⟩ : ∃ u, x188 = .tuple #[u, .int .i64 1] ∧ Sl (encS encU) TT w' u [] := q188
    subst e188
    refine ask_do rfl fun K hK => ?_
    go_simp
    exact hK _ _ rfl h188 (World.grownBy.refl _ none)
  -- op 5 (slot 193): extract
  refine MonoR.step (Pv.eq (.int .i64 1)) [(3, 188)] (by kernel_rfl) (fun w' hw' => ?_) ?_
  · intro x188 q188
    obtain ⟨u188, e188, h188⟩ : ∃ u, x188 = .tuple #[u, .int .i64 1] ∧ Sl (encS encU) TT w' u [] := q188
    subst e188
    refine ask_do rfl fun K hK => ?_
    go_simp
    exact hK _ _ rfl rfl (World.grownBy.refl _ none)
  -- op 6 (slot 32): assign
  refine MonoR.step (Pv.sl (encS encU) TT []) [(4, 192)] (by kernel_rfl) (fun w' hw' => ?_) ?_
  · intro x192 h192
    have h192 : Sl (encS encU) TT w' x192 [] := h192
    refine ask_do rfl fun K hK => ?_
    go_simp
    exact hK _ _ rfl h192 (World.grownBy.refl _ none)
  -- op 7 (slot 33): assign
  refine MonoR.step (Pv.eq (.int .i64 1)) [(5, 193)] (by kernel_rfl) (fun w' hw' => ?_) ?_
  · rintro _ rfl
    refine ask_do rfl fun K hK => ?_
    go_simp
    exact hK _ _ rfl rfl (World.grownBy.refl _ none)
  intro w23 hww23
  intro _ _
  intro _ _
  intro _ _
  intro _ _
  intro _ _
  intro _ _
  intro _ _
  rintro _ rfl
  simp only [Act.put, List.setIfInBounds_toArray, List.set_cons_zero, List.set_cons_succ]
  have HBd : Hid (Bk w23 w2.heap.size 24 ps.cells) := Lib.hid (Bk.grown HB.out hww23 (by simp))
  have HGd : Hid (w.grownBy w23 none) := Lib.hid ((HG.out).trans hww23)
  have HS2d : Hid (Sl encD TT w23 (.slice (some ⟨g2, o2, none⟩) 2 c2) [(1, [[4, 1], [1, 4]]), (2, [[9, 1], [1, 1]])]) := Lib.hid (Sl.kept HS2.out hww23)
  have HS5d : Hid (Sl (encP) TT w23 v5 [(12, 3), (0, 0)]) := Lib.hid (Sl.kept HS5.out hww23)
  have HBod : Hid (Bk w23 w10.heap.size 24 podd.cells) := Lib.hid (Bk.grown HBo.out hww23 (by simp))
  have HBfd : Hid (Bk w23 (w10.heap.size + 1) 24 pflat.cells) := Lib.hid (Bk.grown HBf.out hww23 (by simp))
  have HBwd : Hid (Bk w23 (w10.heap.size + 1 + 1) 24 pfew.cells) := Lib.hid (Bk.grown HBw.out hww23 (by simp))
  have HS11d : Hid (Sl (encD) TT w23 v11 [(1, [[4, 1], [1]])]) := Lib.hid (Sl.kept HS11.out hww23)
  have HD0d : Hid (World.cell? w23 ⟨g2, o2, none⟩ = some (.int .i64 1)) := Lib.hid (cell_kept HD0.out hww23 (by simp))
  have HD1d : Hid (World.cell? w23 ⟨g2, o2 + 1, none⟩ = some (.slice Au 2 cu)) := Lib.hid (cell_kept HD1.out hww23 (by simp))
  have HU2d : Hid (Sl (encS encU) TT w23 (.slice Au 2 cu) [[4, 1], [1, 4]]) := Lib.hid (Sl.kept HU2.out hww23)
  clear HB
  have HB := HBd
  clear HBd
  clear HG
  have HG := HGd
  clear HGd
  clear HS2
  have HS2 := HS2d
  clear HS2d
  clear HS5
  have HS5 := HS5d
  clear HS5d
  clear HBo
  have HBo := HBod
  clear HBod
  clear HBf
  have HBf := HBfd
  clear HBfd
  clear HBw
  have HBw := HBwd
  clear HBwd
  clear HS11
  have HS11 := HS11d
  clear HS11d
  clear HD0
  have HD0 := HD0d
  clear HD0d
  clear HD1
  have HD1 := HD1d
  clear HD1d
  clear HU2
  have HU2 := HU2d
  clear HU2d
  clear hww23
  refine wpList_nil ?_
  go_upto_region 30 with (fail)
  have HBd : Hid (Bk w23.drew w2.heap.size 24 ps.cells) := Lib.hid (Bk.grown HB.out (grown_drewN' w23 1) (by simp))
  have HGd : Hid (w.grownBy w23.drew none) := Lib.hid ((HG.out).trans (grown_drewN' w23 1))
  have HS2d : Hid (Sl encD TT w23.drew (.slice (some ⟨g2, o2, none⟩) 2 c2) [(1, [[4, 1], [1, 4]]), (2, [[9, 1], [1, 1]])]) := Lib.hid (Sl.kept HS2.out (grown_drewN' w23 1))
  have HS5d : Hid (Sl (encP) TT w23.drew v5 [(12, 3), (0, 0)]) := Lib.hid (Sl.kept HS5.out (grown_drewN' w23 1))
  have HBod : Hid (Bk w23.drew w10.heap.size 24 podd.cells) := Lib.hid (Bk.grown HBo.out (grown_drewN' w23 1) (by simp))
  have HBfd : Hid (Bk w23.drew (w10.heap.size + 1) 24 pflat.cells) := Lib.hid (Bk.grown HBf.out (grown_drewN' w23 1) (by simp))
  have HBwd : Hid (Bk w23.drew (w10.heap.size + 1 + 1) 24 pfew.cells) := Lib.hid (Bk.grown HBw.out (grown_drewN' w23 1) (by simp))
  have HS11d : Hid (Sl (encD) TT w23.drew v11 [(1, [[4, 1], [1]])]) := Lib.hid (Sl.kept HS11.out (grown_drewN' w23 1))
  have HD0d : Hid (World.cell? w23.drew ⟨g2, o2, none⟩ = some (.int .i64 1)) := Lib.hid (cell_kept HD0.out (grown_drewN' w23 1) (by simp))
  have HD1d : Hid (World.cell? w23.drew ⟨g2, o2 + 1, none⟩ = some (.slice Au 2 cu)) := Lib.hid (cell_kept HD1.out (grown_drewN' w23 1) (by simp))
  have HU2d : Hid (Sl (encS encU) TT w23.drew (.slice Au 2 cu) [[4, 1], [1, 4]]) := Lib.hid (Sl.kept HU2.out (grown_drewN' w23 1))
  clear HB
  have HB := HBd
  clear HBd
  clear HG
  have HG := HGd
  clear HGd
  clear HS2
  have HS2 := HS2d
  clear HS2d
  clear HS5
  have HS5 := HS5d
  clear HS5d
  clear HBo
  have HBo := HBod
  clear HBod
  clear HBf
  have HBf := HBfd
  clear HBfd
  clear HBw
  have HBw := HBwd
  clear HBwd
  clear HS11
  have HS11 := HS11d
  clear HS11d
  clear HD0
  have HD0 := HD0d
  clear HD0d
  clear HD1
  have HD1 := HD1d
  clear HD1d
  clear HU2
  have HU2 := HU2d
  clear HU2d
  refine wp_region_mono 13 (by kernel_rfl) (by kernel_rfl) ?_
  -- op 0 (slot 195): load
  refine MonoR.step (Pv.eq (ps.v)) [] (by kernel_rfl) (fun w' hw' => ?_) ?_
  · refine ask_do rfl fun K hK => ?_
    have hp := (HB.out.grown hw' (by simp)).prule
    go_simp
    exact hK _ _ rfl rfl (World.grownBy.refl _ none)
  -- op 1 (slot 196): move
  refine MonoR.step (Pv.eq (.slice (some ⟨g2, o2, none⟩) 2 c2)) [] (by kernel_rfl) (fun w' hw' => ?_) ?_
  · refine ask_do rfl fun K hK => ?_
    go_simp
    exact hK _ _ rfl rfl (World.grownBy.refl _ none)
  -- op 2 (slot 197): indexAddr
  refine MonoR.step (Pv.eq (.pointer (some ⟨g2, o2, none⟩))) [(1, 196)] (by kernel_rfl) (fun w' hw' => ?_) ?_
  · rintro _ rfl
    refine ask_do rfl fun K hK => ?_
    go_simp
    exact hK _ _ rfl rfl (World.grownBy.refl _ none)
  -- op 3 (slot 198): fieldAddr
  refine MonoR.step (Pv.eq (.pointer (some ⟨g2, o2 + 1, none⟩))) [(2, 197)] (by kernel_rfl) (fun w' hw' => ?_) ?_
  · rintro _ rfl
    refine ask_do rfl fun K hK => ?_
    go_simp
    exact hK _ _ rfl rfl (World.grownBy.refl _ none)
  -- op 4 (slot 199): load
  refine MonoR.step (Pv.sl (encS encU) TT [[4, 1], [1, 4]]) [(3, 198)] (by kernel_rfl) (fun w' hw' => ?_) ?_
  · rintro _ rfl
    refine ask_do rfl fun K hK => ?_
    have q1 := cell_kept HD1.out hw' (by simp)
    go_simp
    exact hK _ _ rfl (HU2.out.kept hw') (World.grownBy.refl _ none)
  -- op 5 (slot 200): build
  refine MonoR.step (Pv.dealt 8 [[4, 1], [1, 4]]) [(4, 199)] (by kernel_rfl) (fun w' hw' => ?_) ?_
  · intro x199 h199
    have h199 : Sl (encS encU) TT w' x199 [[4, 1], [1, 4]] := h199
    obtain ⟨A199, c199, e199, k199, l199⟩ := h199.form
    have e199 : x199 = .slice A199 2 c199 := e199
    subst e199
    refine ask_do rfl fun K hK => ?_
    go_simp
    exact hK _ _ rfl ⟨_, rfl, h199⟩ (World.grownBy.refl _ none)
  -- op 6 (slot 201): buildSlice
  refine MonoR.step (Pv.sl (encD) TT [(8, [[4, 1], [1, 4]])]) [(5, 200)] (by kernel_rfl) (fun w' hw' => ?_) ?_
  · intro x200 q200
    obtain ⟨u200, e200, h200⟩ : ∃ u, x200 = .agg #[.int .i64 8, u] ∧ Sl (encS encU) TT w' u [[4, 1], [1, 4]] := q200
    subst e200
    obtain ⟨A200, c200, e200, k200, l200⟩ := h200.form
    have e200 : u200 = .slice A200 2 c200 := e200
    subst e200
    refine ask_do rfl fun K hK => ?_
    go_simp
    exact hK _ _ rfl (Sl.build [[.int .i64 8, .slice A200 2 c200]] rfl ⟨⟨_, rfl, ⟨by decide, by decide⟩, h200⟩, trivial⟩ rfl (by decide)) (World.grownBy_alloc w' _ none)
  -- op 7 (slot 202): call
  refine MonoR.step (Pv.tup (encS encU) [] 1) [(0, 195), (6, 201)] (by kernel_rfl) (fun w' hw' => ?_) ?_
  · rintro _ rfl
    intro x201 h201
    have h201 : Sl (encD) TT w' x201 [(8, [[4, 1], [1, 4]])] := h201
    refine ask_do rfl fun K hK => ?_
    go_simp
    refine (scoms_any ps _ [(8, [[4, 1], [1, 4]])] TT w' ps_ok h201 (by decide) (by decide)).mono ?_
    rintro e w3 ⟨v3, he, h3, hg⟩
    rw [(show comsE ps [(8, [[4, 1], [1, 4]])] = 1 by rw [comsE_eq]; decide +kernel)] at he
    rw [(show comsL ps [(8, [[4, 1], [1, 4]])] = [] by rw [comsL_eq]; decide +kernel)] at h3
    subst he
    exact hK _ _ rfl ⟨_, rfl, h3.more (fun _ _ _ => trivial)⟩ hg
  -- op 8 (slot 194): move
  refine MonoR.step (Pv.tup (encS encU) [] 1) [(7, 202)] (by kernel_rfl) (fun w' hw' => ?_) ?_
  · intro x202 q202
    obtain ⟨u202, e202, h202⟩ : ∃ u, x202 = .tuple #[u, .int .i64 1] ∧ Sl (encS encU) TT w' u [] := q202
    subst e202
    refine ask_do rfl fun K hK => ?_
    go_simp
    exact hK _ _ rfl ⟨_, rfl, h202⟩ (World.grownBy.refl _ none)
  -- op 9 (slot 203): extract
  refine MonoR.step (Pv.sl (encS encU) TT []) [(8, 194)] (by kernel_rfl) (fun w' hw' => ?_) ?_
  · intro x194 q194
    obtain ⟨u194, e194, h194⟩ : ∃ u, x194 = .tuple #[u, .int .i64 1] ∧ Sl (encS encU) TT w' u [] := q194
    subst e194
    refine ask_do rfl fun K hK => ?_
    go_simp
    exact hK _ _ rfl h194 (World.grownBy.refl _ none)
  -- op 10 (slot 204): extract
  refine MonoR.step (Pv.eq (.int .i64 1)) [(8, 194)] (by kernel_rfl) (fun w' hw' => ?_) ?_
  · intro x194 q194
    obtain ⟨u194, e194, h194⟩ : ∃ u, x194 = .tuple #[u, .int .i64 1] ∧ Sl (encS encU) TT w' u [] := q194
    subst e194
    refine ask_do rfl fun K hK => ?_
    go_simp
    exact hK _ _ rfl rfl (World.grownBy.refl _ none)
  -- op 11 (slot 34): assign
  refine MonoR.step (Pv.sl (encS encU) TT []) [(9, 203)] (by kernel_rfl) (fun w' hw' => ?_) ?_
  · intro x203 h203
    have h203 : Sl (encS encU) TT w' x203 [] := h203
    refine ask_do rfl fun K hK => ?_
    go_simp
    exact hK _ _ rfl h203 (World.grownBy.refl _ none)
  -- op 12 (slot 35): assign
  refine MonoR.step (Pv.eq (.int .i64 1)) [(10, 204)] (by kernel_rfl) (fun w' hw' => ?_) ?_
  · rintro _ rfl
    refine ask_do rfl fun K hK => ?_
    go_simp
    exact hK _ _ rfl rfl (World.grownBy.refl _ none)
  intro w24 hww24
  intro _ _
  intro _ _
  intro _ _
  intro _ _
  intro _ _
  intro _ _
  intro _ _
  intro _ _
  intro _ _
  intro _ _
  intro _ _
  intro _ _
  rintro _ rfl
  simp only [Act.put, List.setIfInBounds_toArray, List.set_cons_zero, List.set_cons_succ]
  have HBd : Hid (Bk w24 w2.heap.size 24 ps.cells) := Lib.hid (Bk.grown HB.out hww24 (by simp))
  have HGd : Hid (w.grownBy w24 none) := Lib.hid ((HG.out).trans hww24)
  have HS2d : Hid (Sl encD TT w24 (.slice (some ⟨g2, o2, none⟩) 2 c2) [(1, [[4, 1], [1, 4]]), (2, [[9, 1], [1, 1]])]) := Lib.hid (Sl.kept HS2.out hww24)
  have HS5d : Hid (Sl (encP) TT w24 v5 [(12, 3), (0, 0)]) := Lib.hid (Sl.kept HS5.out hww24)
  have HBod : Hid (Bk w24 w10.heap.size 24 podd.cells) := Lib.hid (Bk.grown HBo.out hww24 (by simp))
  have HBfd : Hid (Bk w24 (w10.heap.size + 1) 24 pflat.cells) := Lib.hid (Bk.grown HBf.out hww24 (by simp))
  have HBwd : Hid (Bk w24 (w10.heap.size + 1 + 1) 24 pfew.cells) := Lib.hid (Bk.grown HBw.out hww24 (by simp))
  have HS11d : Hid (Sl (encD) TT w24 v11 [(1, [[4, 1], [1]])]) := Lib.hid (Sl.kept HS11.out hww24)
  have HD0d : Hid (World.cell? w24 ⟨g2, o2, none⟩ = some (.int .i64 1)) := Lib.hid (cell_kept HD0.out hww24 (by simp))
  have HD1d : Hid (World.cell? w24 ⟨g2, o2 + 1, none⟩ = some (.slice Au 2 cu)) := Lib.hid (cell_kept HD1.out hww24 (by simp))
  have HU2d : Hid (Sl (encS encU) TT w24 (.slice Au 2 cu) [[4, 1], [1, 4]]) := Lib.hid (Sl.kept HU2.out hww24)
  clear HB
  have HB := HBd
  clear HBd
  clear HG
  have HG := HGd
  clear HGd
  clear HS2
  have HS2 := HS2d
  clear HS2d
  clear HS5
  have HS5 := HS5d
  clear HS5d
  clear HBo
  have HBo := HBod
  clear HBod
  clear HBf
  have HBf := HBfd
  clear HBfd
  clear HBw
  have HBw := HBwd
  clear HBwd
  clear HS11
  have HS11 := HS11d
  clear HS11d
  clear HD0
  have HD0 := HD0d
  clear HD0d
  clear HD1
  have HD1 := HD1d
  clear HD1d
  clear HU2
  have HU2 := HU2d
  clear HU2d
  clear hww24
  refine wpList_nil ?_
  clear HS2 HS5 HS11 HD0 HD1 HU2
  go_upto_region 31 with (fail)
  refine wp_region_seqm 6 (by kernel_rfl) ?_
  -- op 0 (slot 206): load
  refine MonoR.step (Pv.eq (ps.v)) [] (by kernel_rfl) (fun w' hw' => ?_) ?_
  · refine ask_do rfl fun K hK => ?_
    have hp := (HB.out.grown hw' (by simp)).prule
    go_simp
    exact hK _ _ rfl rfl (World.grownBy.refl _ none)
  -- op 1 (slot 207): buildSlice
  refine MonoR.step (Pv.sl (encU) TT [1]) [] (by kernel_rfl) (fun w' hw' => ?_) ?_
  · refine ask_do rfl fun K hK => ?_
    go_simp
    exact hK _ _ rfl (Sl.build [[.int .u64 1]] rfl ⟨⟨rfl, ⟨by decide, by decide⟩⟩, trivial⟩ rfl (by decide)) (World.grownBy_alloc w' _ none)
  -- op 2 (slot 208): call
  refine MonoR.step (Pv.mtup [] [] 4) [(0, 206), (1, 207)] (by kernel_rfl) (fun w' hw' => ?_) ?_
  · rintro _ rfl
    intro x207 h207
    have h207 : Sl (encU) TT w' x207 [1] := h207
    refine ask_do rfl fun K hK => ?_
    go_simp
    refine (smodel_any ps _ [1] TT w' ps_ok h207 (by decide)).mono ?_
    rintro e w3 ⟨a3, b3, he, h3, k3, _, hg⟩
    rw [(show modelE ps [1] = 4 by decide +kernel)] at he
    rw [(show modelW ps [1] = [] by decide +kernel)] at h3
    rw [(show modelB ps [1] = [] by decide +kernel)] at k3
    subst he
    exact hK _ _ rfl ⟨_, _, rfl, h3.plain.more (fun _ _ _ => trivial), k3.more (fun _ _ _ => trivial)⟩ hg
  -- op 3 (slot 205): move
  refine MonoR.step (Pv.mtup [] [] 4) [(2, 208)] (by kernel_rfl) (fun w' hw' => ?_) ?_
  · intro x208 q208
    obtain ⟨a208, b208, e208, h208, k208⟩ : ∃ a b, x208 = .tuple #[.agg #[a, b], .int .i64 4] ∧ Sl (encS encI) TT w' a [] ∧ Sl encI TT w' b [] := q208
    subst e208
    refine ask_do rfl fun K hK => ?_
    go_simp
    exact hK _ _ rfl ⟨_, _, rfl, h208, k208⟩ (World.grownBy.refl _ none)
  -- op 4 (slot 209): extract
  refine MonoR.step (Pv.model [] []) [(3, 205)] (by kernel_rfl) (fun w' hw' => ?_) ?_
  · intro x205 q205
    obtain ⟨a205, b205, e205, h205, k205⟩ : ∃ a b, x205 = .tuple #[.agg #[a, b], .int .i64 4] ∧ Sl (encS encI) TT w' a [] ∧ Sl encI TT w' b [] := q205
    subst e205
    refine ask_do rfl fun K hK => ?_
    go_simp
    exact hK _ _ rfl ⟨_, _, rfl, h205, k205⟩ (World.grownBy.refl _ none)
  -- op 5 (slot 210): extract
  refine MonoR.step (Pv.eq (.int .i64 4)) [(3, 205)] (by kernel_rfl) (fun w' hw' => ?_) ?_
  · intro x205 q205
    obtain ⟨a205, b205, e205, h205, k205⟩ : ∃ a b, x205 = .tuple #[.agg #[a, b], .int .i64 4] ∧ Sl (encS encI) TT w' a [] ∧ Sl encI TT w' b [] := q205
    subst e205
    refine ask_do rfl fun K hK => ?_
    go_simp
    exact hK _ _ rfl rfl (World.grownBy.refl _ none)
  intro w25 hww25
  intro _ _
  intro _ _
  intro _ _
  intro _ _
  intro v209 h209'
  rintro _ rfl
  simp only [Act.put, List.setIfInBounds_toArray, List.set_cons_zero, List.set_cons_succ]
  have HBd : Hid (Bk w25 w2.heap.size 24 ps.cells) := Lib.hid (Bk.grown HB.out hww25 (by simp))
  have HGd : Hid (w.grownBy w25 none) := Lib.hid ((HG.out).trans hww25)
  have HBod : Hid (Bk w25 w10.heap.size 24 podd.cells) := Lib.hid (Bk.grown HBo.out hww25 (by simp))
  have HBfd : Hid (Bk w25 (w10.heap.size + 1) 24 pflat.cells) := Lib.hid (Bk.grown HBf.out hww25 (by simp))
  have HBwd : Hid (Bk w25 (w10.heap.size + 1 + 1) 24 pfew.cells) := Lib.hid (Bk.grown HBw.out hww25 (by simp))
  clear HB
  have HB := HBd
  clear HBd
  clear HG
  have HG := HGd
  clear HGd
  clear HBo
  have HBo := HBod
  clear HBod
  clear HBf
  have HBf := HBfd
  clear HBfd
  clear HBw
  have HBw := HBwd
  clear HBwd
  obtain ⟨a209, b209, e209, ha209, hb209⟩ := h209'
  subst e209
  have HA209 : Hid (Sl (encS encI) TT w25 a209 []) := Lib.hid ha209
  have HBB209 : Hid (Sl encI TT w25 b209 []) := Lib.hid hb209
  clear ha209 hb209
  clear hww25
  show wpList Try.prog _ _ _ _ w25
  obtain ⟨A209, n209, c209, rfl⟩ := HA209.out.shape
  obtain ⟨D209, m209, d209, rfl⟩ := HBB209.out.shape
  obtain ⟨w26, hww26⟩ : ∃ x, w25.alloc (.cells #[.slice A209 n209 c209, .slice D209 m209 d209] 47) = x := ⟨_, rfl⟩
  have HM37 : Hid (Bk w26 w25.heap.size 47 #[.slice A209 n209 c209, .slice D209 m209 d209]) := Lib.hid (by rw [← hww26]; exact Bk.new _ _ _)
  have HMG37 : Hid (w25.grownBy w26 none) := Lib.hid (by rw [← hww26]; exact World.grownBy_alloc _ _ none)
  have HBd : Hid (Bk w26 w2.heap.size 24 ps.cells) := Lib.hid (Bk.grown HB.out HMG37.out (by simp))
  have HGd : Hid (w.grownBy w26 none) := Lib.hid ((HG.out).trans HMG37.out)
  have HBod : Hid (Bk w26 w10.heap.size 24 podd.cells) := Lib.hid (Bk.grown HBo.out HMG37.out (by simp))
  have HBfd : Hid (Bk w26 (w10.heap.size + 1) 24 pflat.cells) := Lib.hid (Bk.grown HBf.out HMG37.out (by simp))
  have HBwd : Hid (Bk w26 (w10.heap.size + 1 + 1) 24 pfew.cells) := Lib.hid (Bk.grown HBw.out HMG37.out (by simp))
  clear HB
  have HB := HBd
  clear HBd
  clear HG
  have HG := HGd
  clear HGd
  clear HBo
  have HBo := HBod
  clear HBod
  clear HBf
  have HBf := HBfd
  clear HBfd
  clear HBw
  have HBw := HBwd
  clear HBwd
  go_upto_region 32 with (fail)
  try rw [hww26]
  clear hww26
  refine wp_region_seqm 5 (by kernel_rfl) ?_
  -- op 0 (slot 212): load
  refine MonoR.step (Pv.eq (podd.v)) [] (by kernel_rfl) (fun w' hw' => ?_) ?_
  · refine ask_do rfl fun K hK => ?_
    have hp := (HBo.out.grown hw' (by simp)).prule
    go_simp
    exact hK _ _ rfl rfl (World.grownBy.refl _ none)
  -- op 1 (slot 213): call
  refine MonoR.step (Pv.mtup [] [] 4) [(0, 212)] (by kernel_rfl) (fun w' hw' => ?_) ?_
  · rintro _ rfl
    refine ask_do rfl fun K hK => ?_
    go_simp
    refine (smodel_any podd _ [] TT w' podd_ok (Sl.nil _ TT w') (by decide)).mono ?_
    rintro e w3 ⟨a3, b3, he, h3, k3, _, hg⟩
    rw [(show modelE podd [] = 4 by decide +kernel)] at he
    rw [(show modelW podd [] = [] by decide +kernel)] at h3
    rw [(show modelB podd [] = [] by decide +kernel)] at k3
    subst he
    exact hK _ _ rfl ⟨_, _, rfl, h3.plain.more (fun _ _ _ => trivial), k3.more (fun _ _ _ => trivial)⟩ hg
  -- op 2 (slot 211): move
  refine MonoR.step (Pv.mtup [] [] 4) [(1, 213)] (by kernel_rfl) (fun w' hw' => ?_) ?_
  · intro x213 q213
    obtain ⟨a213, b213, e213, h213, k213⟩ : ∃ a b, x213 = .tuple #[.agg #[a, b], .int .i64 4] ∧ Sl (encS encI) TT w' a [] ∧ Sl encI TT w' b [] := q213
    subst e213
    refine ask_do rfl fun K hK => ?_
    go_simp
    exact hK _ _ rfl ⟨_, _, rfl, h213, k213⟩ (World.grownBy.refl _ none)
  -- op 3 (slot 214): extract
  refine MonoR.step (Pv.model [] []) [(2, 211)] (by kernel_rfl) (fun w' hw' => ?_) ?_
  · intro x211 q211
    obtain ⟨a211, b211, e211, h211, k211⟩ : ∃ a b, x211 = .tuple #[.agg #[a, b], .int .i64 4] ∧ Sl (encS encI) TT w' a [] ∧ Sl encI TT w' b [] := q211
    subst e211
    refine ask_do rfl fun K hK => ?_
    go_simp
    exact hK _ _ rfl ⟨_, _, rfl, h211, k211⟩ (World.grownBy.refl _ none)
  -- op 4 (slot 215): extract
  refine MonoR.step (Pv.eq (.int .i64 4)) [(2, 211)] (by kernel_rfl) (fun w' hw' => ?_) ?_
  · intro x211 q211
    obtain ⟨a211, b211, e211, h211, k211⟩ : ∃ a b, x211 = .tuple #[.agg #[a, b], .int .i64 4] ∧ Sl (encS encI) TT w' a [] ∧ Sl encI TT w' b [] := q211
    subst e211
    refine ask_do rfl fun K hK => ?_
    go_simp
    exact hK _ _ rfl rfl (World.grownBy.refl _ none)
  intro w27 hww27
  intro _ _
  intro _ _
  intro _ _
  intro v214 h214'
  rintro _ rfl
  simp only [Act.put, List.setIfInBounds_toArray, List.set_cons_zero, List.set_cons_succ]
  have HBd : Hid (Bk w27 w2.heap.size 24 ps.cells) := Lib.hid (Bk.grown HB.out hww27 (by simp))
  have HGd : Hid (w.grownBy w27 none) := Lib.hid ((HG.out).trans hww27)
  have HBod : Hid (Bk w27 w10.heap.size 24 podd.cells) := Lib.hid (Bk.grown HBo.out hww27 (by simp))
  have HBfd : Hid (Bk w27 (w10.heap.size + 1) 24 pflat.cells) := Lib.hid (Bk.grown HBf.out hww27 (by simp))
  have HBwd : Hid (Bk w27 (w10.heap.size + 1 + 1) 24 pfew.cells) := Lib.hid (Bk.grown HBw.out hww27 (by simp))
  clear HB
  have HB := HBd
  clear HBd
  clear HG
  have HG := HGd
  clear HGd
  clear HBo
  have HBo := HBod
  clear HBod
  clear HBf
  have HBf := HBfd
  clear HBfd
  clear HBw
  have HBw := HBwd
  clear HBwd
  obtain ⟨a214, b214, e214, ha214, hb214⟩ := h214'
  subst e214
  have HA214 : Hid (Sl (encS encI) TT w27 a214 []) := Lib.hid ha214
  have HBB214 : Hid (Sl encI TT w27 b214 []) := Lib.hid hb214
  clear ha214 hb214
  clear hww27
  show wpList Try.prog _ _ _ _ w27
  obtain ⟨A214, n214, c214, rfl⟩ := HA214.out.shape
  obtain ⟨D214, m214, d214, rfl⟩ := HBB214.out.shape
  obtain ⟨w28, hww28⟩ : ∃ x, w27.alloc (.cells #[.slice A214 n214 c214, .slice D214 m214 d214] 47) = x := ⟨_, rfl⟩
  have HM39 : Hid (Bk w28 w27.heap.size 47 #[.slice A214 n214 c214, .slice D214 m214 d214]) := Lib.hid (by rw [← hww28]; exact Bk.new _ _ _)
  have HMG39 : Hid (w27.grownBy w28 none) := Lib.hid (by rw [← hww28]; exact World.grownBy_alloc _ _ none)
  have HBd : Hid (Bk w28 w2.heap.size 24 ps.cells) := Lib.hid (Bk.grown HB.out HMG39.out (by simp))
  have HGd : Hid (w.grownBy w28 none) := Lib.hid ((HG.out).trans HMG39.out)
  have HBod : Hid (Bk w28 w10.heap.size 24 podd.cells) := Lib.hid (Bk.grown HBo.out HMG39.out (by simp))
  have HBfd : Hid (Bk w28 (w10.heap.size + 1) 24 pflat.cells) := Lib.hid (Bk.grown HBf.out HMG39.out (by simp))
  have HBwd : Hid (Bk w28 (w10.heap.size + 1 + 1) 24 pfew.cells) := Lib.hid (Bk.grown HBw.out HMG39.out (by simp))
  clear HB
  have HB := HBd
  clear HBd
  clear HG
  have HG := HGd
  clear HGd
  clear HBo
  have HBo := HBod
  clear HBod
  clear HBf
  have HBf := HBfd
  clear HBfd
  clear HBw
  have HBw := HBwd
  clear HBwd
  go_upto_region 33 with (fail)
  try rw [hww28]
  clear hww28
  refine wp_region_seqm 6 (by kernel_rfl) ?_
  -- op 0 (slot 217): load
  refine MonoR.step (Pv.eq (ps.v)) [] (by kernel_rfl) (fun w' hw' => ?_) ?_
  · refine ask_do rfl fun K hK => ?_
    have hp := (HB.out.grown hw' (by simp)).prule
    go_simp
    exact hK _ _ rfl rfl (World.grownBy.refl _ none)
  -- op 1 (slot 218): buildSlice
  refine MonoR.step (Pv.sl (encU) TT [0, 9]) [] (by kernel_rfl) (fun w' hw' => ?_) ?_
  · refine ask_do rfl fun K hK => ?_
    go_simp
    exact hK _ _ rfl (Sl.build [[.int .u64 0], [.int .u64 9]] rfl ⟨⟨rfl, ⟨by decide, by decide⟩⟩, ⟨rfl, ⟨by decide, by decide⟩⟩, trivial⟩ rfl (by decide)) (World.grownBy_alloc w' _ none)
  -- op 2 (slot 219): call
  refine MonoR.step (Pv.mtup [] [] 20) [(0, 217), (1, 218)] (by kernel_rfl) (fun w' hw' => ?_) ?_
  · rintro _ rfl
    intro x218 h218
    have h218 : Sl (encU) TT w' x218 [0, 9] := h218
    refine ask_do rfl fun K hK => ?_
    go_simp
    refine (smodel_any ps _ [0, 9] TT w' ps_ok h218 (by decide)).mono ?_
    rintro e w3 ⟨a3, b3, he, h3, k3, _, hg⟩
    rw [(show modelE ps [0, 9] = 20 by decide +kernel)] at he
    rw [(show modelW ps [0, 9] = [] by decide +kernel)] at h3
    rw [(show modelB ps [0, 9] = [] by decide +kernel)] at k3
    subst he
    exact hK _ _ rfl ⟨_, _, rfl, h3.plain.more (fun _ _ _ => trivial), k3.more (fun _ _ _ => trivial)⟩ hg
  -- op 3 (slot 216): move
  refine MonoR.step (Pv.mtup [] [] 20) [(2, 219)] (by kernel_rfl) (fun w' hw' => ?_) ?_
  · intro x219 q219
    obtain ⟨a219, b219, e219, h219, k219⟩ : ∃ a b, x219 = .tuple #[.agg #[a, b], .int .i64 20] ∧ Sl (encS encI) TT w' a [] ∧ Sl encI TT w' b [] := q219
    subst e219
    refine ask_do rfl fun K hK => ?_
    go_simp
    exact hK _ _ rfl ⟨_, _, rfl, h219, k219⟩ (World.grownBy.refl _ none)
  -- op 4 (slot 220): extract
  refine MonoR.step (Pv.model [] []) [(3, 216)] (by kernel_rfl) (fun w' hw' => ?_) ?_
  · intro x216 q216
    obtain ⟨a216, b216, e216, h216, k216⟩ : ∃ a b, x216 = .tuple #[.agg #[a, b], .int .i64 20] ∧ Sl (encS encI) TT w' a [] ∧ Sl encI TT w' b [] := q216
    subst e216
    refine ask_do rfl fun K hK => ?_
    go_simp
    exact hK _ _ rfl ⟨_, _, rfl, h216, k216⟩ (World.grownBy.refl _ none)
  -- op 5 (slot 221): extract
  refine MonoR.step (Pv.eq (.int .i64 20)) [(3, 216)] (by kernel_rfl) (fun w' hw' => ?_) ?_
  · intro x216 q216
    obtain ⟨a216, b216, e216, h216, k216⟩ : ∃ a b, x216 = .tuple #[.agg #[a, b], .int .i64 20] ∧ Sl (encS encI) TT w' a [] ∧ Sl encI TT w' b [] := q216
    subst e216
    refine ask_do rfl fun K hK => ?_
    go_simp
    exact hK _ _ rfl rfl (World.grownBy.refl _ none)
  intro w29 hww29
  intro _ _
  intro _ _
  intro _ _
  intro _ _
  intro v220 h220'
  rintro _ rfl
  simp only [Act.put, List.setIfInBounds_toArray, List.set_cons_zero, List.set_cons_succ]
  have HBd : Hid (Bk w29 w2.heap.size 24 ps.cells) := Lib.hid (Bk.grown HB.out hww29 (by simp))
  have HGd : Hid (w.grownBy w29 none) := Lib.hid ((HG.out).trans hww29)
  have HBod : Hid (Bk w29 w10.heap.size 24 podd.cells) := Lib.hid (Bk.grown HBo.out hww29 (by simp))
  have HBfd : Hid (Bk w29 (w10.heap.size + 1) 24 pflat.cells) := Lib.hid (Bk.grown HBf.out hww29 (by simp))
  have HBwd : Hid (Bk w29 (w10.heap.size + 1 + 1) 24 pfew.cells) := Lib.hid (Bk.grown HBw.out hww29 (by simp))
  clear HB
  have HB := HBd
  clear HBd
  clear HG
  have HG := HGd
  clear HGd
  clear HBo
  have HBo := HBod
  clear HBod
  clear HBf
  have HBf := HBfd
  clear HBfd
  clear HBw
  have HBw := HBwd
  clear HBwd
  obtain ⟨a220, b220, e220, ha220, hb220⟩ := h220'
  subst e220
  have HA220 : Hid (Sl (encS encI) TT w29 a220 []) := Lib.hid ha220
  have HBB220 : Hid (Sl encI TT w29 b220 []) := Lib.hid hb220
  clear ha220 hb220
  clear hww29
  show wpList Try.prog _ _ _ _ w29
  obtain ⟨A220, n220, c220, rfl⟩ := HA220.out.shape
  obtain ⟨D220, m220, d220, rfl⟩ := HBB220.out.shape
  obtain ⟨w30, hww30⟩ : ∃ x, w29.alloc (.cells #[.slice A220 n220 c220, .slice D220 m220 d220] 47) = x := ⟨_, rfl⟩
  have HM41 : Hid (Bk w30 w29.heap.size 47 #[.slice A220 n220 c220, .slice D220 m220 d220]) := Lib.hid (by rw [← hww30]; exact Bk.new _ _ _)
  have HMG41 : Hid (w29.grownBy w30 none) := Lib.hid (by rw [← hww30]; exact World.grownBy_alloc _ _ none)
  have HBd : Hid (Bk w30 w2.heap.size 24 ps.cells) := Lib.hid (Bk.grown HB.out HMG41.out (by simp))
  have HGd : Hid (w.grownBy w30 none) := Lib.hid ((HG.out).trans HMG41.out)
  have HBod : Hid (Bk w30 w10.heap.size 24 podd.cells) := Lib.hid (Bk.grown HBo.out HMG41.out (by simp))
  have HBfd : Hid (Bk w30 (w10.heap.size + 1) 24 pflat.cells) := Lib.hid (Bk.grown HBf.out HMG41.out (by simp))
  have HBwd : Hid (Bk w30 (w10.heap.size + 1 + 1) 24 pfew.cells) := Lib.hid (Bk.grown HBw.out HMG41.out (by simp))
  clear HB
  have HB := HBd
  clear HBd
  clear HG
  have HG := HGd
  clear HGd
  clear HBo
  have HBo := HBod
  clear HBod
  clear HBf
  have HBf := HBfd
  clear HBfd
  clear HBw
  have HBw := HBwd
  clear HBwd
  go_upto_region 34 with (fail)
  try rw [hww30]
  clear hww30
  refine wp_region_seqm 59 (by kernel_rfl) ?_
  -- op 0 (slot 222): move
  refine MonoR.step (Pv.eq (.int .i64 1)) [] (by kernel_rfl) (fun w' hw' => ?_) ?_
  · refine ask_do rfl fun K hK => ?_
    go_simp
    exact hK _ _ rfl rfl (World.grownBy.refl _ none)
  -- op 1 (slot 223): binOp
  refine MonoR.step (Pv.eq (.bool true)) [(0, 222)] (by kernel_rfl) (fun w' hw' => ?_) ?_
  · rintro _ rfl
    refine ask_do rfl fun K hK => ?_
    go_simp
    exact hK _ _ rfl rfl (World.grownBy.refl _ none)
  -- op 2 (slot 224): move
  refine MonoR.step (Pv.eq (.bool true)) [(1, 223)] (by kernel_rfl) (fun w' hw' => ?_) ?_
  · rintro _ rfl
    refine ask_do rfl fun K hK => ?_
    go_simp
    exact hK _ _ rfl rfl (World.grownBy.refl _ none)
  -- op 3 (slot 225): move
  refine MonoR.step (Pv.eq (.int .i64 1)) [(2, 224)] (by kernel_rfl) (fun w' hw' => ?_) ?_
  · rintro _ rfl
    refine ask_do rfl fun K hK => ?_
    go_simp
    exact hK _ _ rfl rfl (World.grownBy.refl _ none)
  -- op 4 (slot 226): binOp
  refine MonoR.step (Pv.eq (.bool true)) [(2, 224), (3, 225)] (by kernel_rfl) (fun w' hw' => ?_) ?_
  · rintro _ rfl
    rintro _ rfl
    refine ask_do rfl fun K hK => ?_
    go_simp
    exact hK _ _ rfl rfl (World.grownBy.refl _ none)
  -- op 5 (slot 227): pick
  refine MonoR.step (Pv.eq (.bool true)) [(2, 224), (4, 226)] (by kernel_rfl) (fun w' hw' => ?_) ?_
  · rintro _ rfl
    rintro _ rfl
    refine ask_do rfl fun K hK => ?_
    go_simp
    exact hK _ _ rfl rfl (World.grownBy.refl _ none)
  -- op 6 (slot 228): move
  refine MonoR.step (Pv.eq (.bool true)) [(5, 227)] (by kernel_rfl) (fun w' hw' => ?_) ?_
  · rintro _ rfl
    refine ask_do rfl fun K hK => ?_
    go_simp
    exact hK _ _ rfl rfl (World.grownBy.refl _ none)
  -- op 7 (slot 229): move
  refine MonoR.step (Pv.eq (.int .i64 1)) [(6, 228)] (by kernel_rfl) (fun w' hw' => ?_) ?_
  · rintro _ rfl
    refine ask_do rfl fun K hK => ?_
    go_simp
    exact hK _ _ rfl rfl (World.grownBy.refl _ none)
  -- op 8 (slot 230): binOp
  refine MonoR.step (Pv.eq (.bool true)) [(6, 228), (7, 229)] (by kernel_rfl) (fun w' hw' => ?_) ?_
  · rintro _ rfl
    rintro _ rfl
    refine ask_do rfl fun K hK => ?_
    go_simp
    exact hK _ _ rfl rfl (World.grownBy.refl _ none)
  -- op 9 (slot 231): pick
  refine MonoR.step (Pv.eq (.bool true)) [(6, 228), (8, 230)] (by kernel_rfl) (fun w' hw' => ?_) ?_
  · rintro _ rfl
    rintro _ rfl
    refine ask_do rfl fun K hK => ?_
    go_simp
    exact hK _ _ rfl rfl (World.grownBy.refl _ none)
  -- op 10 (slot 232): move
  refine MonoR.step (Pv.eq (.bool true)) [(9, 231)] (by kernel_rfl) (fun w' hw' => ?_) ?_
  · rintro _ rfl
    refine ask_do rfl fun K hK => ?_
    go_simp
    exact hK _ _ rfl rfl (World.grownBy.refl _ none)
  -- op 11 (slot 233): move
  refine MonoR.step (Pv.eq (.int .i64 1)) [(10, 232)] (by kernel_rfl) (fun w' hw' => ?_) ?_
  · rintro _ rfl
    refine ask_do rfl fun K hK => ?_
    go_simp
    exact hK _ _ rfl rfl (World.grownBy.refl _ none)
  -- op 12 (slot 234): binOp
  refine MonoR.step (Pv.eq (.bool true)) [(10, 232), (11, 233)] (by kernel_rfl) (fun w' hw' => ?_) ?_
  · rintro _ rfl
    rintro _ rfl
    refine ask_do rfl fun K hK => ?_
    go_simp
    exact hK _ _ rfl rfl (World.grownBy.refl _ none)
  -- op 13 (slot 235): pick
  refine MonoR.step (Pv.eq (.bool true)) [(10, 232), (12, 234)] (by kernel_rfl) (fun w' hw' => ?_) ?_
  · rintro _ rfl
    rintro _ rfl
    refine ask_do rfl fun K hK => ?_
    go_simp
    exact hK _ _ rfl rfl (World.grownBy.refl _ none)
  -- op 14 (slot 236): move
  refine MonoR.step (Pv.eq (.bool true)) [(13, 235)] (by kernel_rfl) (fun w' hw' => ?_) ?_
  · rintro _ rfl
    refine ask_do rfl fun K hK => ?_
    go_simp
    exact hK _ _ rfl rfl (World.grownBy.refl _ none)
  -- op 15 (slot 237): move
  refine MonoR.step (Pv.eq (.int .i64 1)) [(14, 236)] (by kernel_rfl) (fun w' hw' => ?_) ?_
  · rintro _ rfl
    refine ask_do rfl fun K hK => ?_
    go_simp
    exact hK _ _ rfl rfl (World.grownBy.refl _ none)
  -- op 16 (slot 238): binOp
  refine MonoR.step (Pv.eq (.bool true)) [(14, 236), (15, 237)] (by kernel_rfl) (fun w' hw' => ?_) ?_
  · rintro _ rfl
    rintro _ rfl
    refine ask_do rfl fun K hK => ?_
    go_simp
    exact hK _ _ rfl rfl (World.grownBy.refl _ none)
  -- op 17 (slot 239): pick
  refine MonoR.step (Pv.eq (.bool true)) [(14, 236), (16, 238)] (by kernel_rfl) (fun w' hw' => ?_) ?_
  · rintro _ rfl
    rintro _ rfl
    refine ask_do rfl fun K hK => ?_
    go_simp
    exact hK _ _ rfl rfl (World.grownBy.refl _ none)
  -- op 18 (slot 240): move
  refine MonoR.step (Pv.eq (.bool true)) [(17, 239)] (by kernel_rfl) (fun w' hw' => ?_) ?_
  · rintro _ rfl
    refine ask_do rfl fun K hK => ?_
    go_simp
    exact hK _ _ rfl rfl (World.grownBy.refl _ none)
  -- op 19 (slot 241): move
  refine MonoR.step (Pv.eq (.int .i64 1)) [(18, 240)] (by kernel_rfl) (fun w' hw' => ?_) ?_
  · rintro _ rfl
    refine ask_do rfl fun K hK => ?_
    go_simp
    exact hK _ _ rfl rfl (World.grownBy.refl _ none)
  -- op 20 (slot 242): binOp
  refine MonoR.step (Pv.eq (.bool true)) [(18, 240), (19, 241)] (by kernel_rfl) (fun w' hw' => ?_) ?_
  · rintro _ rfl
    rintro _ rfl
    refine ask_do rfl fun K hK => ?_
    go_simp
    exact hK _ _ rfl rfl (World.grownBy.refl _ none)
  -- op 21 (slot 243): pick
  refine MonoR.step (Pv.eq (.bool true)) [(18, 240), (20, 242)] (by kernel_rfl) (fun w' hw' => ?_) ?_
  · rintro _ rfl
    rintro _ rfl
    refine ask_do rfl fun K hK => ?_
    go_simp
    exact hK _ _ rfl rfl (World.grownBy.refl _ none)
  -- op 22 (slot 244): move
  refine MonoR.step (Pv.eq (.bool true)) [(21, 243)] (by kernel_rfl) (fun w' hw' => ?_) ?_
  · rintro _ rfl
    refine ask_do rfl fun K hK => ?_
    go_simp
    exact hK _ _ rfl rfl (World.grownBy.refl _ none)
  -- op 23 (slot 245): move
  refine MonoR.step (Pv.eq (.int .i64 6)) [(22, 244)] (by kernel_rfl) (fun w' hw' => ?_) ?_
  · rintro _ rfl
    refine ask_do rfl fun K hK => ?_
    go_simp
    exact hK _ _ rfl rfl (World.grownBy.refl _ none)
  -- op 24 (slot 246): binOp
  refine MonoR.step (Pv.eq (.bool true)) [(22, 244), (23, 245)] (by kernel_rfl) (fun w' hw' => ?_) ?_
  · rintro _ rfl
    rintro _ rfl
    refine ask_do rfl fun K hK => ?_
    go_simp
    exact hK _ _ rfl rfl (World.grownBy.refl _ none)
  -- op 25 (slot 247): pick
  refine MonoR.step (Pv.eq (.bool true)) [(22, 244), (24, 246)] (by kernel_rfl) (fun w' hw' => ?_) ?_
  · rintro _ rfl
    rintro _ rfl
    refine ask_do rfl fun K hK => ?_
    go_simp
    exact hK _ _ rfl rfl (World.grownBy.refl _ none)
  -- op 26 (slot 248): move
  refine MonoR.step (Pv.eq (.bool true)) [(25, 247)] (by kernel_rfl) (fun w' hw' => ?_) ?_
  · rintro _ rfl
    refine ask_do rfl fun K hK => ?_
    go_simp
    exact hK _ _ rfl rfl (World.grownBy.refl _ none)
  -- op 27 (slot 249): move
  refine MonoR.step (Pv.eq (.int .i64 1)) [(26, 248)] (by kernel_rfl) (fun w' hw' => ?_) ?_
  · rintro _ rfl
    refine ask_do rfl fun K hK => ?_
    go_simp
    exact hK _ _ rfl rfl (World.grownBy.refl _ none)
  -- op 28 (slot 250): binOp
  refine MonoR.step (Pv.eq (.bool true)) [(26, 248), (27, 249)] (by kernel_rfl) (fun w' hw' => ?_) ?_
  · rintro _ rfl
    rintro _ rfl
    refine ask_do rfl fun K hK => ?_
    go_simp
    exact hK _ _ rfl rfl (World.grownBy.refl _ none)
  -- op 29 (slot 251): pick
  refine MonoR.step (Pv.eq (.bool true)) [(26, 248), (28, 250)] (by kernel_rfl) (fun w' hw' => ?_) ?_
  · rintro _ rfl
    rintro _ rfl
    refine ask_do rfl fun K hK => ?_
    go_simp
    exact hK _ _ rfl rfl (World.grownBy.refl _ none)
  -- op 30 (slot 252): move
  refine MonoR.step (Pv.eq (.bool true)) [(29, 251)] (by kernel_rfl) (fun w' hw' => ?_) ?_
  · rintro _ rfl
    refine ask_do rfl fun K hK => ?_
    go_simp
    exact hK _ _ rfl rfl (World.grownBy.refl _ none)
  -- op 31 (slot 253): move
  refine MonoR.step (Pv.eq (.int .i64 1)) [(30, 252)] (by kernel_rfl) (fun w' hw' => ?_) ?_
  · rintro _ rfl
    refine ask_do rfl fun K hK => ?_
    go_simp
    exact hK _ _ rfl rfl (World.grownBy.refl _ none)
  -- op 32 (slot 254): binOp
  refine MonoR.step (Pv.eq (.bool true)) [(30, 252), (31, 253)] (by kernel_rfl) (fun w' hw' => ?_) ?_
  · rintro _ rfl
    rintro _ rfl
    refine ask_do rfl fun K hK => ?_
    go_simp
    exact hK _ _ rfl rfl (World.grownBy.refl _ none)
  -- op 33 (slot 255): pick
  refine MonoR.step (Pv.eq (.bool true)) [(30, 252), (32, 254)] (by kernel_rfl) (fun w' hw' => ?_) ?_
  · rintro _ rfl
    rintro _ rfl
    refine ask_do rfl fun K hK => ?_
    go_simp
    exact hK _ _ rfl rfl (World.grownBy.refl _ none)
  -- op 34 (slot 256): move
  refine MonoR.step (Pv.eq (.bool true)) [(33, 255)] (by kernel_rfl) (fun w' hw' => ?_) ?_
  · rintro _ rfl
    refine ask_do rfl fun K hK => ?_
    go_simp
    exact hK _ _ rfl rfl (World.grownBy.refl _ none)
  -- op 35 (slot 257): move
  refine MonoR.step (Pv.eq (.int .i64 6)) [(34, 256)] (by kernel_rfl) (fun w' hw' => ?_) ?_
  · rintro _ rfl
    refine ask_do rfl fun K hK => ?_
    go_simp
    exact hK _ _ rfl rfl (World.grownBy.refl _ none)
  -- op 36 (slot 258): binOp
  refine MonoR.step (Pv.eq (.bool true)) [(34, 256), (35, 257)] (by kernel_rfl) (fun w' hw' => ?_) ?_
  · rintro _ rfl
    rintro _ rfl
    refine ask_do rfl fun K hK => ?_
    go_simp
    exact hK _ _ rfl rfl (World.grownBy.refl _ none)
  -- op 37 (slot 259): pick
  refine MonoR.step (Pv.eq (.bool true)) [(34, 256), (36, 258)] (by kernel_rfl) (fun w' hw' => ?_) ?_
  · rintro _ rfl
    rintro _ rfl
    refine ask_do rfl fun K hK => ?_
    go_simp
    exact hK _ _ rfl rfl (World.grownBy.refl _ none)
  -- op 38 (slot 260): move
  refine MonoR.step (Pv.eq (.bool true)) [(37, 259)] (by kernel_rfl) (fun w' hw' => ?_) ?_
  · rintro _ rfl
    refine ask_do rfl fun K hK => ?_
    go_simp
    exact hK _ _ rfl rfl (World.grownBy.refl _ none)
  -- op 39 (slot 261): move
  refine MonoR.step (Pv.eq (.int .i64 1)) [(38, 260)] (by kernel_rfl) (fun w' hw' => ?_) ?_
  · rintro _ rfl
    refine ask_do rfl fun K hK => ?_
    go_simp
    exact hK _ _ rfl rfl (World.grownBy.refl _ none)
  -- op 40 (slot 262): binOp
  refine MonoR.step (Pv.eq (.bool true)) [(38, 260), (39, 261)] (by kernel_rfl) (fun w' hw' => ?_) ?_
  · rintro _ rfl
    rintro _ rfl
    refine ask_do rfl fun K hK => ?_
    go_simp
    exact hK _ _ rfl rfl (World.grownBy.refl _ none)
  -- op 41 (slot 263): pick
  refine MonoR.step (Pv.eq (.bool true)) [(38, 260), (40, 262)] (by kernel_rfl) (fun w' hw' => ?_) ?_
  · rintro _ rfl
    rintro _ rfl
    refine ask_do rfl fun K hK => ?_
    go_simp
    exact hK _ _ rfl rfl (World.grownBy.refl _ none)
  -- op 42 (slot 264): move
  refine MonoR.step (Pv.eq (.bool true)) [(41, 263)] (by kernel_rfl) (fun w' hw' => ?_) ?_
  · rintro _ rfl
    refine ask_do rfl fun K hK => ?_
    go_simp
    exact hK _ _ rfl rfl (World.grownBy.refl _ none)
  -- op 43 (slot 265): move
  refine MonoR.step (Pv.eq (.int .i64 1)) [(42, 264)] (by kernel_rfl) (fun w' hw' => ?_) ?_
  · rintro _ rfl
    refine ask_do rfl fun K hK => ?_
    go_simp
    exact hK _ _ rfl rfl (World.grownBy.refl _ none)
  -- op 44 (slot 266): binOp
  refine MonoR.step (Pv.eq (.bool true)) [(42, 264), (43, 265)] (by kernel_rfl) (fun w' hw' => ?_) ?_
  · rintro _ rfl
    rintro _ rfl
    refine ask_do rfl fun K hK => ?_
    go_simp
    exact hK _ _ rfl rfl (World.grownBy.refl _ none)
  -- op 45 (slot 267): pick
  refine MonoR.step (Pv.eq (.bool true)) [(42, 264), (44, 266)] (by kernel_rfl) (fun w' hw' => ?_) ?_
  · rintro _ rfl
    rintro _ rfl
    refine ask_do rfl fun K hK => ?_
    go_simp
    exact hK _ _ rfl rfl (World.grownBy.refl _ none)
  -- op 46 (slot 268): move
  refine MonoR.step (Pv.eq (.bool true)) [(45, 267)] (by kernel_rfl) (fun w' hw' => ?_) ?_
  · rintro _ rfl
    refine ask_do rfl fun K hK => ?_
    go_simp
    exact hK _ _ rfl rfl (World.grownBy.refl _ none)
  -- op 47 (slot 269): move
  refine MonoR.step (Pv.eq (.int .i64 4)) [(46, 268)] (by kernel_rfl) (fun w' hw' => ?_) ?_
  · rintro _ rfl
    refine ask_do rfl fun K hK => ?_
    go_simp
    exact hK _ _ rfl rfl (World.grownBy.refl _ none)
  -- op 48 (slot 270): binOp
  refine MonoR.step (Pv.eq (.bool true)) [(46, 268), (47, 269)] (by kernel_rfl) (fun w' hw' => ?_) ?_
  · rintro _ rfl
    rintro _ rfl
    refine ask_do rfl fun K hK => ?_
    go_simp
    exact hK _ _ rfl rfl (World.grownBy.refl _ none)
  -- op 49 (slot 271): pick
  refine MonoR.step (Pv.eq (.bool true)) [(46, 268), (48, 270)] (by kernel_rfl) (fun w' hw' => ?_) ?_
  · rintro _ rfl
    rintro _ rfl
    refine ask_do rfl fun K hK => ?_
    go_simp
    exact hK _ _ rfl rfl (World.grownBy.refl _ none)
  -- op 50 (slot 272): move
  refine MonoR.step (Pv.eq (.bool true)) [(49, 271)] (by kernel_rfl) (fun w' hw' => ?_) ?_
  · rintro _ rfl
    refine ask_do rfl fun K hK => ?_
    go_simp
    exact hK _ _ rfl rfl (World.grownBy.refl _ none)
  -- op 51 (slot 273): move
  refine MonoR.step (Pv.eq (.int .i64 4)) [(50, 272)] (by kernel_rfl) (fun w' hw' => ?_) ?_
  · rintro _ rfl
    refine ask_do rfl fun K hK => ?_
    go_simp
    exact hK _ _ rfl rfl (World.grownBy.refl _ none)
  -- op 52 (slot 274): binOp
  refine MonoR.step (Pv.eq (.bool true)) [(50, 272), (51, 273)] (by kernel_rfl) (fun w' hw' => ?_) ?_
  · rintro _ rfl
    rintro _ rfl
    refine ask_do rfl fun K hK => ?_
    go_simp
    exact hK _ _ rfl rfl (World.grownBy.refl _ none)
  -- op 53 (slot 275): pick
  refine MonoR.step (Pv.eq (.bool true)) [(50, 272), (52, 274)] (by kernel_rfl) (fun w' hw' => ?_) ?_
  · rintro _ rfl
    rintro _ rfl
    refine ask_do rfl fun K hK => ?_
    go_simp
    exact hK _ _ rfl rfl (World.grownBy.refl _ none)
  -- op 54 (slot 276): move
  refine MonoR.step (Pv.eq (.bool true)) [(53, 275)] (by kernel_rfl) (fun w' hw' => ?_) ?_
  · rintro _ rfl
    refine ask_do rfl fun K hK => ?_
    go_simp
    exact hK _ _ rfl rfl (World.grownBy.refl _ none)
  -- op 55 (slot 277): move
  refine MonoR.step (Pv.eq (.int .i64 20)) [(54, 276)] (by kernel_rfl) (fun w' hw' => ?_) ?_
  · rintro _ rfl
    refine ask_do rfl fun K hK => ?_
    go_simp
    exact hK _ _ rfl rfl (World.grownBy.refl _ none)
  -- op 56 (slot 278): binOp
  refine MonoR.step (Pv.eq (.bool true)) [(54, 276), (55, 277)] (by kernel_rfl) (fun w' hw' => ?_) ?_
  · rintro _ rfl
    rintro _ rfl
    refine ask_do rfl fun K hK => ?_
    go_simp
    exact hK _ _ rfl rfl (World.grownBy.refl _ none)
  -- op 57 (slot 279): pick
  refine MonoR.step (Pv.eq (.bool true)) [(54, 276), (56, 278)] (by kernel_rfl) (fun w' hw' => ?_) ?_
  · rintro _ rfl
    rintro _ rfl
    refine ask_do rfl fun K hK => ?_
    go_simp
    exact hK _ _ rfl rfl (World.grownBy.refl _ none)
  -- op 58 (slot 0): assign
  refine MonoR.step (Pv.eq (.bool true)) [(57, 279)] (by kernel_rfl) (fun w' hw' => ?_) ?_
  · rintro _ rfl
    refine ask_do rfl fun K hK => ?_
    go_simp
    exact hK _ _ rfl rfl (World.grownBy.refl _ none)
  intro w31 hww31
  intro _ _
  intro _ _
  intro _ _
  intro _ _
  intro _ _
  intro _ _
  intro _ _
  intro _ _
  intro _ _
  intro _ _
  intro _ _
  intro _ _
  intro _ _
  intro _ _
  intro _ _
  intro _ _
  intro _ _
  intro _ _
  intro _ _
  intro _ _
  intro _ _
  intro _ _
  intro _ _
  intro _ _
  intro _ _
  intro _ _
  intro _ _
  intro _ _
  intro _ _
  intro _ _
  intro _ _
  intro _ _
  intro _ _
  intro _ _
  intro _ _
  intro _ _
  intro _ _
  intro _ _
  intro _ _
  intro _ _
  intro _ _
  intro _ _
  intro _ _
  intro _ _
  intro _ _
  intro _ _
  intro _ _
  intro _ _
  intro _ _
  intro _ _
  intro _ _
  intro _ _
  intro _ _
  intro _ _
  intro _ _
  intro _ _
  intro _ _
  intro _ _
  rintro _ rfl
  simp only [Act.put, List.setIfInBounds_toArray, List.set_cons_zero, List.set_cons_succ]
  have HBd : Hid (Bk w31 w2.heap.size 24 ps.cells) := Lib.hid (Bk.grown HB.out hww31 (by simp))
  have HGd : Hid (w.grownBy w31 none) := Lib.hid ((HG.out).trans hww31)
  clear HB
  have HB := HBd
  clear HBd
  clear HG
  have HG := HGd
  clear HGd
  clear hww31
  refine wpList_nil ?_
  go_wp2
  go_ret
  exact ⟨rfl, HG.out⟩
end Go.Proofs.Ytmjdpmfcbeaecaa

namespace Go.Proofs.Ytmjdpmfcbeaecaa
open Go.ChangeShapes Go.WideShapes Go.RowKit

theorem u64_wf {a : Int} (h : (Lit.int .u64 a).wf = true) : U64 a := by
  have := bounds_u64 h
  unfold U64
  omega
theorem i64_wf {a : Int} (h : (Lit.int .i64 a).wf = true) : I64 a := by
  have := bounds_i64 h
  unfold I64
  omega
/-- Whatever is read at this type reads so. -/
def Reads {α : Type} (E : Enc α) (t : TypeId) : Prop :=
  ∀ {H : Type} {enc : TypeId × Value → H} {w : World} {base : Nat} {spare : Nat → Bool} {held : Bool} {fuel : Nat} {cs : List Value} {x : DataW H × List MemPlace},
    DataW.trod enc Try.prog w base spare held fuel t cs = some x → ∃ a, E.rep (fun _ => True) w cs a
theorem reads_u64 {t : TypeId} (ht : Try.prog.underlying t = some (.int .u64)) : Reads encU t := by
  intro H enc w base spare held fuel cs x h
  obtain ⟨n, rfl, _, hw⟩ := DataW.trod_int ht h
  exact ⟨n, rfl, u64_wf hw⟩
theorem reads_i64 {t : TypeId} (ht : Try.prog.underlying t = some (.int .i64)) : Reads encI t := by
  intro H enc w base spare held fuel cs x h
  obtain ⟨n, rfl, _, hw⟩ := DataW.trod_int ht h
  exact ⟨n, rfl, i64_wf hw⟩
theorem reads_pair {t u : TypeId} {f0 f1 : Field} (ht : Try.prog.underlying t = some (.struct #[f0, f1])) (h0 : f0.type = u ∧ f0.offset = 0) (h1 : f1.type = u ∧ f1.offset = 1)
    (hu : Try.prog.underlying u = some (.int .u64)) (hc : Try.prog.cellsOf t = 2) (hcu : Try.prog.cellsOf u = 1) : Reads encP t := by
  intro H enc w base spare held fuel cs x h
  obtain ⟨y0, y1, n, _, hl, e0, e1⟩ := trod_struct2 ht h
  rw [h0.1, h0.2, hcu] at e0
  rw [h1.1, h1.2, hcu] at e1
  obtain ⟨a, ea, _, wa⟩ := DataW.trod_int hu e0
  obtain ⟨b, eb, _, wb⟩ := DataW.trod_int hu e1
  rw [hc] at hl
  match cs, hl with
  | [c0, c1], _ =>
    simp at ea eb
    subst ea eb
    exact ⟨(a, b), rfl, u64_wf wa, u64_wf wb⟩
theorem reads_sl {α : Type} {E : Enc α} {t e : TypeId} (ht : Try.prog.underlying t = some (.slice e)) (hE : Reads E e) (hc : Try.prog.cellsOf e = E.size) : Reads (encS E) t := by
  intro H enc w base spare held fuel cs x h
  rcases Go.Deep.open_slice ht h with ⟨rfl, _⟩ | ⟨a, len, cap, m, n, D, Pl, rfl, _, hl, hm, hmm, _, hi⟩
  · exact ⟨[], _, rfl, Sl.nil _ _ _⟩
  · have hlm : len ≤ m := by rw [hmm]; split <;> omega
    have key : ∀ i, i < len → ∃ y, ∃ cs', E.rep (fun _ => True) w cs' y ∧ ∀ j, j < E.size → w.cell? (a.add (i * E.size + j)) = cs'[j]? := by
      intro i hil
      obtain ⟨cs', hcell, htr⟩ := hi i (by omega)
      obtain ⟨y, hy⟩ := hE htr
      obtain ⟨_, hlen, hat⟩ := World.cells?_some hcell
      rw [hc] at hat
      refine ⟨y, cs', hy, fun j hj => ?_⟩
      rw [← hat j hj, Go.Deep.add_add]
    have hcz : ∃ f : Fin len → α, ∀ i : Fin len, ∃ cs', E.rep (fun _ => True) w cs' (f i) ∧ ∀ j, j < E.size → w.cell? (a.add (i.1 * E.size + j)) = cs'[j]? :=
      ⟨fun i => Classical.choose (key i.1 i.2), fun i => Classical.choose_spec (key i.1 i.2)⟩
    obtain ⟨f, hf⟩ := hcz
    have hlen : (List.ofFn f).length = len := List.length_ofFn
    refine ⟨List.ofFn f, _, rfl, some a, cap, by rw [hlen], by omega, by unfold maxLen at hm; omega, fun hn => ?_⟩
    have hpos : 0 < len := by rw [← hlen]; exact List.length_pos_iff.2 hn
    obtain ⟨cs0, hr0, hc0⟩ := hf ⟨0, hpos⟩
    have h00 := hc0 0 E.pos
    have hl0 := E.len hr0
    rw [List.getElem?_eq_getElem (by rw [hl0]; exact E.pos)] at h00
    obtain ⟨g, o, sp⟩ := a
    have hsp : sp = none := by simpa [Addr.add] using World.cell?_spot h00
    subst hsp
    have h00' : w.cell? ⟨g, o, none⟩ = some (cs0[0]'(by rw [hl0]; exact E.pos)) := by simpa [Addr.add] using h00
    have hgl : g < w.heap.size := by
      rcases Nat.lt_or_ge g w.heap.size with hlt | hge
      · exact hlt
      · simp [World.cell?, Array.getElem?_eq_none hge] at h00'
    refine ⟨g, o, rfl, hgl, trivial, fun i hi' => ?_⟩
    obtain ⟨cs', hr', hc'⟩ := hf ⟨i, by omega⟩
    refine ⟨cs', by simpa using hr', fun j u hu => ?_⟩
    have hj : j < E.size := by
      rw [← E.len hr']
      exact (List.getElem?_eq_some_iff.1 hu).1
    rw [← hu, ← hc' j hj]
    have : (⟨g, o, none⟩ : Addr).add (i * E.size + j) = ⟨g, o + i * E.size + j, none⟩ := by
      unfold Addr.add
      split
      · rename_i h0
        have : i * E.size + j = 0 := by simpa using h0
        rw [show o + i * E.size + j = o by omega]
      · rw [Nat.add_assoc]
    rw [this]
/-- A slice that came in as an argument. -/
theorem open_sl {α : Type} {E : Enc α} {t : TypeId} (hR : Reads (encS E) t) {H : Type} {enc : TypeId × Value → H} {w : World} {base : Nat} {spare : Nat → Bool} {held : Bool} {a : Option Addr} {len cap : Nat} {d : DataW H} {p : List MemPlace}
    (h : DataW.Trod enc Try.prog w base spare held t (.slice a len cap) d p) : ∃ xs, Sl E (fun _ => True) w (.slice a len cap) xs := by
  obtain ⟨fuel, hf⟩ := h
  obtain ⟨xs, v, e, hs⟩ := hR hf
  simp [Value.cells] at e
  exact ⟨xs, by rw [e]; exact hs⟩
end Go.Proofs.Ytmjdpmfcbeaecaa

namespace Go.Proofs.Ytmjdpmfcbeaecaa
open Go.ChangeShapes Go.WideShapes Go.RowKit

set_option maxRecDepth 100000 in
theorem open_params {H : Type} {enc : TypeId × Value → H} {w : World} {base : Nat} {spare : Nat → Bool} {held : Bool} {r : Reach} {b0 : Nat} {v : Value} {d : DataW H} {pl : List MemPlace}
    (hv : Value.okWide Try.prog w r b0 24 v) (h : DataW.Trod enc Try.prog w base spare held 24 v d pl) : ∃ p : Par, v = p.v ∧ p.ok := by
  obtain ⟨cs, rfl, hsz⟩ := okWide_struct Try.underlying24 hv
  obtain ⟨l⟩ := cs
  have hc : Try.prog.cellsOf 24 = 12 := by kernel_rfl
  have cu : Try.prog.cellsOf 22 = 1 := by kernel_rfl
  have ci : Try.prog.cellsOf 3 = 1 := by kernel_rfl
  have cj : Try.prog.cellsOf 2 = 1 := by kernel_rfl
  match l, hsz.trans hc with
  | [c0, c1, c2, c3, c4, c5, c6, c7, c8, c9, c10, c11], _ =>
    obtain ⟨fuel, hf⟩ := h
    obtain ⟨xs, n, _, _, _, hlen, hg⟩ := DataW.trod_struct Try.underlying24 hf
    match xs, hlen with
    | [y0, y1, y2, y3, y4, y5, y6, y7, y8, y9, y10, y11], _ =>
      have g0 := hg 0 _ rfl
      have g1 := hg 1 _ rfl
      have g2 := hg 2 _ rfl
      have g3 := hg 3 _ rfl
      have g4 := hg 4 _ rfl
      have g5 := hg 5 _ rfl
      have g6 := hg 6 _ rfl
      have g7 := hg 7 _ rfl
      have g8 := hg 8 _ rfl
      have g9 := hg 9 _ rfl
      have g10 := hg 10 _ rfl
      have g11 := hg 11 _ rfl
      simp [Value.cells, cu, ci, cj] at g0 g1 g2 g3 g4 g5 g6 g7 g8 g9 g10 g11
      obtain ⟨a0, e0, _, w0⟩ := DataW.trod_int Try.underlying22 g0
      simp at e0
      obtain ⟨a1, e1, _, w1⟩ := DataW.trod_int Try.underlying22 g1
      simp at e1
      obtain ⟨a2, e2, _, w2⟩ := DataW.trod_int Try.underlying22 g2
      simp at e2
      obtain ⟨a3, e3, _, w3⟩ := DataW.trod_int Try.underlying22 g3
      simp at e3
      obtain ⟨a4, e4, _, w4⟩ := DataW.trod_int Try.underlying3 g4
      simp at e4
      obtain ⟨a5, e5, _, w5⟩ := DataW.trod_int Try.underlying3 g5
      simp at e5
      obtain ⟨a6, e6, _, w6⟩ := DataW.trod_int Try.underlying3 g6
      simp at e6
      obtain ⟨a7, e7, _, w7⟩ := DataW.trod_int Try.underlying3 g7
      simp at e7
      obtain ⟨a8, e8, _, w8⟩ := DataW.trod_int Try.underlying3 g8
      simp at e8
      obtain ⟨a9, e9, _, w9⟩ := DataW.trod_int Try.underlying3 g9
      simp at e9
      obtain ⟨a10, e10, _, w10⟩ := DataW.trod_int Try.underlying2 g10
      simp at e10
      obtain ⟨a11, e11, _, w11⟩ := DataW.trod_int Try.underlying2 g11
      simp at e11
      subst e0 e1 e2 e3 e4 e5 e6 e7 e8 e9 e10 e11
      exact ⟨⟨a0, a1, a2, a3, a4, a5, a6, a7, a8, a9, a10, a11⟩, rfl, ⟨u64_wf w0, u64_wf w1, u64_wf w2, u64_wf w3, i64_wf w4, i64_wf w5, i64_wf w6, i64_wf w7, i64_wf w8, i64_wf w9, i64_wf w10, i64_wf w11⟩⟩
set_option maxRecDepth 100000 in
theorem open_pair {H : Type} {enc : TypeId × Value → H} {w : World} {base : Nat} {spare : Nat → Bool} {held : Bool} {r : Reach} {b0 : Nat} {v : Value} {d : DataW H} {pl : List MemPlace}
    (hv : Value.okWide Try.prog w r b0 37 v) (h : DataW.Trod enc Try.prog w base spare held 37 v d pl) : ∃ x : Int × Int, v = .agg #[.int .u64 x.1, .int .u64 x.2] ∧ U64 x.1 ∧ U64 x.2 := by
  obtain ⟨cs, rfl, hsz⟩ := okWide_struct Try.underlying37 hv
  obtain ⟨l⟩ := cs
  have hc : Try.prog.cellsOf 37 = 2 := by kernel_rfl
  have cu : Try.prog.cellsOf 22 = 1 := by kernel_rfl
  match l, hsz.trans hc with
  | [c0, c1], _ =>
    obtain ⟨fuel, hf⟩ := h
    obtain ⟨xs, n, _, _, _, hlen, hg⟩ := DataW.trod_struct Try.underlying37 hf
    match xs, hlen with
    | [y0, y1], _ =>
      have g0 := hg 0 _ rfl
      have g1 := hg 1 _ rfl
      simp [Value.cells, cu] at g0 g1
      obtain ⟨a0, e0, _, w0⟩ := DataW.trod_int Try.underlying22 g0
      obtain ⟨a1, e1, _, w1⟩ := DataW.trod_int Try.underlying22 g1
      simp at e0 e1
      subst e0 e1
      exact ⟨(a0, a1), rfl, u64_wf w0, u64_wf w1⟩
theorem cells_u64 : Try.prog.cellsOf 22 = 1 := by kernel_rfl
theorem reads_nums : Reads (encS encU) 27 := reads_sl Try.underlying27 (reads_u64 Try.underlying22) cells_u64
theorem cells_pair : Try.prog.cellsOf 37 = 2 := by kernel_rfl
theorem reads_pairs : Reads (encS encP) 38 := reads_sl Try.underlying38 (reads_pair Try.underlying37 ⟨rfl, rfl⟩ ⟨rfl, rfl⟩ Try.underlying22 cells_pair cells_u64) cells_pair
theorem cells_nums : Try.prog.cellsOf 27 = 1 := by kernel_rfl
theorem reads_rows : Reads (encS (encS encU)) 28 := reads_sl Try.underlying28 reads_nums cells_nums
theorem cells_rows : Try.prog.cellsOf 28 = 1 := by kernel_rfl
theorem reads_mat : Reads (encS (encS (encS encU))) 55 := reads_sl Try.underlying55 reads_rows cells_rows
theorem cells_pairs : Try.prog.cellsOf 38 = 1 := by kernel_rfl
theorem reads_prows : Reads (encS (encS encP)) 42 := reads_sl Try.underlying42 reads_pairs cells_pairs
theorem cells_int : Try.prog.cellsOf 3 = 1 := by kernel_rfl
theorem reads_ints : Reads (encS encI) 41 := reads_sl Try.underlying41 (reads_i64 Try.underlying3) cells_int
end Go.Proofs.Ytmjdpmfcbeaecaa
