/- The same steps, where the region does not draw its order. -/
import Derived.Test.YtmbbahlenanpfaaMono
namespace Go.Proofs.Ytmbbahlenanpfaa
open Go

section
variable {P : Program} {Q : Exit → Act → World → Prop} {a0 : Act} {w0 : World}
def upTo (k m : Nat) : Array Bool := Array.replicate k true ++ Array.replicate (m - k) false
theorem upTo_at {k m i : Nat} (hk : k ≤ m) (d : Bool) : (upTo k m).getD i d = if i < k then true else if i < m then false else d := by
  unfold upTo
  rw [Array.getD_eq_getD_getElem?, Array.getElem?_append]
  by_cases h1 : i < k
  · simp [h1]
  · by_cases h2 : i < m
    · simp [h1, h2, show i - k < m - k by omega]
    · simp [h1, h2, show ¬ i - k < m - k by omega]
theorem upTo_set {k m : Nat} (hk : k < m) : (upTo k m).setIfInBounds k true = upTo (k + 1) m := by
  refine Array.ext (by simp [upTo]; omega) fun i h1 h2 => ?_
  have e1 := upTo_at (k := k + 1) (m := m) (i := i) (by omega) false
  have e2 := upTo_at (k := k) (m := m) (i := i) (by omega) false
  have h3 : i < (upTo k m).size := by simpa using h1
  rw [Array.getElem_setIfInBounds h3]
  rw [Array.getD_eq_getD_getElem?, Array.getElem?_eq_getElem h2] at e1
  rw [Array.getD_eq_getD_getElem?, Array.getElem?_eq_getElem h3] at e2
  simp only [Option.getD_some] at e1 e2
  rw [e1]
  split
  · rename_i h
    subst h
    simp
  · rename_i h
    rw [e2]
    by_cases h4 : i < k
    · simp [h4, show i < k + 1 by omega]
    · simp [h4, show ¬ i < k + 1 by omega]
def seqmB (ops : Array Oper) (n sz : Nat) : Bool := Region.noSelect ops && decide (n ≤ ops.size) && topoB ops n && distB ops n sz
theorem wpList_monoR {l : List Oper} (n : Nat) (hB : seqmB l.toArray n a0.tmps.size = true)
    (h : MonoR P l.toArray n a0 w0 (fun Vs => ∀ w, w0.grownBy w none → FinN P l.toArray Q w Vs l a0) n [] l) : wpList P l.toArray Q l a0 w0 := by
  obtain ⟨hM', hn'⟩ := MonoN.cut (MonoR.up h)
  simp only [seqmB, Bool.and_eq_true, decide_eq_true_eq] at hB
  obtain ⟨⟨⟨hsel, hn⟩, htopo⟩, hdist⟩ := hB
  obtain ⟨Vs, hVl, hF, hO⟩ := Mono.out hM'
  simp only [List.reverse_nil, List.nil_append, List.length_nil, Nat.zero_add] at hF hO
  have htl : (l.take n).length = n := by simp; omega
  have hVn : Vs.length = n := hVl.trans htl
  have hsz : l.toArray.size = l.length := by simp
  have key : ∀ m k a w, k + m = n → MInv l.toArray n a0 w0 Vs (upTo k l.toArray.size) a w → wpList P l.toArray Q (l.drop k) a w := by
    intro m
    induction m with
    | zero =>
      intro k a w hk inv
      obtain rfl : k = n := by omega
      have hk : ∀ (q : Nat) (V : Pv) (o : Oper), Vs[q]? = some V → (l.take k)[q]? = some o → V.p (match o.dst with | some d => a.eval (.tmp d) | none => undef) w := by
        intro q V o hv ho
        have hqn : q < k := by have := (List.getElem?_eq_some_iff.1 hv).1; omega
        have h1 := inv.known q V (by rw [upTo_at hn]; simp [hqn]) hv
        have h2 : dstAt l.toArray q = o.dst := by
          have : l[q]? = some o := by rw [List.getElem?_take, if_pos hqn] at ho; exact ho
          simp [dstAt, this]
        rw [h2] at h1
        have h3 : (match o.dst with | some d => a.eval (.tmp d) | none => undef) = valOf o.dst a := by cases o.dst <;> rfl
        rw [h3]
        exact h1
      have hcut := FinN.cut (by rw [hVn]; omega) (hF w inv.grown)
      rw [hVn] at hcut
      have hfin := Fin'.all hVl hk hcut
      have hon : onto a ((l.take k).map (·.dst)) a0 = a := by
        refine act_ext (fun t => onto_at a t _ _ inv.tsize.symm ?_) ((onto_defers _ _ _).trans inv.defers.symm)
        by_cases ht : some t ∈ (l.take k).map (·.dst)
        · exact .inl ht
        · refine .inr (inv.rest t fun j hj _ e => ht ?_).symm
          have hjl : j < l.length := by omega
          have : l[j].dst = some t := by simpa [dstAt, hjl] using e
          exact List.mem_map.2 ⟨l[j], List.mem_iff_getElem?.2 ⟨j, by rw [List.getElem?_take, if_pos hj, List.getElem?_eq_getElem hjl]⟩, this⟩
      rw [hon] at hfin
      exact hfin
    | succ m ih =>
      intro k a w hk inv
      have hkn : k < n := by omega
      have hkl : k < l.length := by omega
      have ho : l.toArray[k]? = some l[k] := by simp [hkl]
      have hnext : (l.take n)[k]? = some l[k] := by rw [List.getElem?_take, if_pos hkn, List.getElem?_eq_getElem hkl]
      obtain ⟨V, js, hV, hchk, hask⟩ := hO k l[k] hnext
      simp only [Bool.and_eq_true] at hchk
      obtain ⟨hpair, hlook⟩ := hchk
      have hu : (upTo k l.toArray.size).getD k true = false := by rw [upTo_at (by omega)]; simp [hkl]
      have hed : ∀ e ∈ l[k].after, Region.binds .any e = true → (upTo k l.toArray.size).getD e.on false = true := fun e he hb => by
        have ht := list_all_range htopo hkn
        simp only [ho, Option.map_some, Option.getD_some] at ht
        have := Array.all_eq_true_iff_forall_mem.1 ht e he
        rw [upTo_at (by omega)]
        simp only [hb, Bool.not_true, Bool.false_or, decide_eq_true_eq] at this
        simp [this]
      have hi : k ∈ Region.ready .any l.toArray (upTo k l.toArray.size) := mem_ready.2 ⟨hu, _, ho, hed⟩
      have hdst : ∀ d, l[k].dst = some d → d < a.tmps.size := by
        intro d hd
        have := list_all_range hdist hkn
        have h2 : dstAt l.toArray k = some d := by simp only [dstAt, ho]; exact hd
        rw [h2] at this
        simp only [Bool.and_eq_true, decide_eq_true_eq] at this
        rw [inv.tsize]
        exact this.1
      have hjs : ∀ x : Nat × Tmp, x ∈ js → dstAt l.toArray x.1 = some x.2 ∧ (upTo k l.toArray.size).getD x.1 false = true ∧ x.1 < k := by
        intro x hx
        have := List.all_eq_true.1 hpair x hx
        simp only [Bool.and_eq_true, beq_iff_eq] at this
        obtain ⟨oj, hoj, e, he, hb, hon⟩ := Region.waitsFor_spec this.2
        have hoo : l[k] = oj := Option.some.inj (ho.symm.trans hoj)
        subst hoo
        have ht := list_all_range htopo hkn
        simp only [ho, Option.map_some, Option.getD_some] at ht
        have ht := Array.all_eq_true_iff_forall_mem.1 ht e he
        simp only [hb, Bool.not_true, Bool.false_or, decide_eq_true_eq] at ht
        exact ⟨this.1, by rw [← hon]; exact hed e he hb, by rw [← hon]; exact ht⟩
      have hA := hask w inv.grown
      have hW := Ask.all (b := a) (fun x hx => by
        obtain ⟨h1, h2, h3⟩ := hjs x hx
        have hxl : x.1 < Vs.length := by omega
        have h4 : Vs[x.1]? = some Vs[x.1] := List.getElem?_eq_getElem hxl
        have h5 := inv.known x.1 _ h2 h4
        rw [h1] at h5
        have : (Vs.take k).getD x.1 Pv.any = Vs[x.1] := by
          rw [List.getD_eq_getElem?_getD, List.getElem?_take, if_pos h3, h4]
          rfl
        rw [this]
        exact h5) hA
      have hop := told_op (Q := Q) (ops := l.toArray) (a0 := a0) (a := a) (Region.noSelect_spec hsel k l[k] · · ho) hdst ((onto_size _ _ _).trans inv.tsize.symm) (fun t ht => by
        refine onto_at a t _ _ inv.tsize.symm ?_
        have h1 : (l[k].looksAt l.toArray).all (fun t => js.any (·.2 == t) || keptB l.toArray n k t) = true := by
          simpa only [lookB, ho, Option.map_some, Option.getD_some] using hlook
        have h2 := List.all_eq_true.1 h1 t ht
        simp only [Bool.or_eq_true] at h2
        rcases h2 with h2 | h2
        · left
          obtain ⟨x, hx, hxt⟩ := List.any_eq_true.1 h2
          exact List.mem_map.2 ⟨x, hx, by rw [beq_iff_eq.1 hxt]⟩
        · right
          refine (inv.rest t fun j hj hD e => ?_).symm
          have h3 := list_all_range h2 hj
          simp only [Bool.or_eq_true, bne_iff_ne, ne_eq, beq_iff_eq] at h3
          rcases h3 with (h3 | h3) | h3
          · exact h3 e
          · obtain ⟨oj, hoj, e', he', hb', hon⟩ := Region.waitsFor_spec h3
            have := inv.head.closed j oj hoj hD e' he' hb'
            rw [hon, getD_both hu] at this
            cases this
          · subst h3
            rw [getD_both hu] at hD
            cases hD) ho (onto_defers _ _ _) hW
      have hstep : wpOp P l.toArray Q k (wpList P l.toArray Q (l.drop (k + 1))) a w := wpOp_mono (fun a' w' hk' => by
        obtain ⟨v, ha, hv, hg⟩ := hk'
        have := minv_step inv hdist hi hkn ho hV (by omega) ha hv hg
        rw [upTo_set (by omega)] at this
        exact ih (k + 1) a' w' (by omega) this) hop
      rw [List.drop_eq_getElem_cons hkl]
      unfold wpOp at hstep
      simp only [ho] at hstep
      exact hstep
  refine key n 0 a0 w0 (by omega) ⟨⟨by simp [upTo], fun j oj hj hD => by rw [upTo_at (by omega)] at hD; simp at hD, fun t _ ht => by rw [upTo_at (by omega)]; simp at ht; simp [ht]⟩, World.grownBy.refl w0 none, rfl, rfl, fun _ _ => rfl, fun j V hD => by rw [upTo_at (by omega)] at hD; simp at hD⟩
theorem wp_region_seqm {l : List Oper} {id : Nat} (n : Nat) (hB : seqmB l.toArray n a0.tmps.size = true)
    (h : MonoR P l.toArray n a0 w0 (fun Vs => ∀ w, w0.grownBy w none → FinN P l.toArray Q w Vs l a0) n [] l) : (Code.region id l.toArray false).wp P Q a0 w0 :=
  wp_region_lit (wpList_monoR n hB h)
end
end Go.Proofs.Ytmbbahlenanpfaa
