/- consistorylaw20.ShareRows: true for every input: the row's statement, and its tied card, out of the law's contract. -/
import Derived.Test.YtmjdpmfcbeaecaaDoorZ4
import Derived.Deep.DeepCutAuto
import Derived.ProofKit
import Derived.Test.YtmjdpmfcbeaecaaDoorCards
import Derived.Test.YtmjdpmfcbeaecaaDoorTie
import Derived.WalkKit
import Derived.OpenShut
import Derived.ChangeOld
import Derived.Below
import Derived.Deep.DeepHandedRow
import Derived.Lib.LaidTab
import Derived.Stop.LaidErr
namespace Go.Proofs.YtmjdpmfcbeaecaaDoor
open Go.RowKit

/-- Params, and members with their pairs, as a statement has them. -/
structure MemOk (p : Par) (at_ : List Int) (l : List (List (Int × Int))) : Prop where
  may : mayP p = true
  places : Places p.N at_
  some : 0 < at_.length
  len : at_.length = l.length
  rows : ∀ x ∈ l, (x.length : Int) = secretsI p
theorem nodup_le : ∀ (l s : List Int), l.Nodup → (∀ x ∈ l, x ∈ s) → l.length ≤ s.length
  | [], _, _, _ => Nat.zero_le _
  | x :: l, s, hn, hs => by
    obtain ⟨h1, h2⟩ := List.nodup_cons.1 hn
    have hx := hs x (by simp)
    have := nodup_le l (s.erase x) h2 fun y hy => (List.mem_erase_of_ne (fun e => h1 (by rw [← e]; exact hy))).2 (hs y (by simp [hy]))
    rw [List.length_erase_of_mem hx] at this
    have h3 := List.length_pos_of_mem hx
    simp only [List.length_cons]
    omega
theorem Places.len {n : Int} {xs : List Int} (h : Places n xs) (hn : n ≤ 7) : xs.length ≤ 7 := by
  refine nodup_le xs [1, 2, 3, 4, 5, 6, 7] h.2 fun x hx => ?_
  · skip
    have := h.1 x hx
    have : x = 1 ∨ x = 2 ∨ x = 3 ∨ x = 4 ∨ x = 5 ∨ x = 6 ∨ x = 7 := by omega
    rcases this with rfl | rfl | rfl | rfl | rfl | rfl | rfl <;> simp
theorem members_of {n : Int} {xs : List Int} (h : Places n xs) (hn : n ≤ 7) (h0 : 0 < xs.length) : membersB xs = true := by
  simp only [membersB, Bool.and_eq_true, decide_eq_true_eq, Bool.not_eq_true']
  refine ⟨h0, List.any_eq_false.2 fun x hx => ?_⟩
  have := h.1 x hx
  simp [memBad]
  omega
theorem sum_good {p : Par} {at_ : List Int} {l : List (List (Int × Int))} (h : MemOk p at_ l) : sumE p at_ l = 0 := by
  obtain ⟨hq, hP, ha, n1, n2, n3, t1, t2, t3, hs, k1, d1⟩ := may_apart h.may
  unfold sumE
  have ho : l.any (fun x => oddB p x) = false := List.any_eq_false.2 fun x hx => by simp [oddB, h.rows x hx]
  rw [hs, members_of h.places n2 h.some, ho, if_pos (by simp [h.len])]
  exact werr_zero hq ha n3 h.places (by have := h.places.len n2; omega) 0
theorem sum_reverse {p : Par} {at_ : List Int} {l : List (List (Int × Int))} (h : MemOk p at_ l) : sumE p at_.reverse l.reverse = 0 ∧ sumL p at_.reverse l.reverse = sumL p at_ l := by
  obtain ⟨hq, hP, ha, n1, n2, n3, t1, t2, t3, hs, k1, d1⟩ := may_apart h.may
  have hr : MemOk p at_.reverse l.reverse := ⟨h.may, h.places.rev, by simpa using h.some, by simpa using h.len, fun x hx => h.rows x (List.mem_reverse.1 hx)⟩
  refine ⟨sum_good hr, ?_⟩
  unfold sumL
  rw [if_pos (sum_good h), if_pos (sum_good hr)]
  refine List.map_congr_left fun s _ => ?_
  rw [wlist_reverse hq ha n3 h.places (by have := h.places.len n2; omega) 0, List.map_reverse]
  refine comeP_reverse _ hq _ _ ?_
  rw [List.length_map, wlist_length hq ha n3 h.places (by have := h.places.len n2; omega) 0, h.len]
theorem sum_one {p : Par} (hm : mayP p = true) (x : Int) (hx : 1 ≤ x ∧ x ≤ p.N) (th : List (Int × Int)) (ht : (th.length : Int) = secretsI p) : sumE p [x] [th] = 0 ∧ sumL p [x] [th] = th.map fun y => (y.1 % p.Q, y.2 % p.Q) := by
  obtain ⟨hq, hP, ha, n1, n2, n3, t1, t2, t3, hs, k1, d1⟩ := may_apart hm
  have h : MemOk p [x] [th] := ⟨hm, ⟨fun y hy => by rw [List.mem_singleton.1 hy]; exact hx, by simp⟩, by simp, rfl, fun y hy => by rw [List.mem_singleton.1 hy]; exact ht⟩
  have h0 := mayB_pos hq
  refine ⟨sum_good h, ?_⟩
  unfold sumL
  rw [if_pos (sum_good h), wlist_one hq (by omega) ha n3 x hx 0]
  refine List.ext_getElem (by simp; omega) fun k k1 k2 => ?_
  simp only [List.length_map, List.length_range] at k1
  have hk : k < th.length := by omega
  rw [List.getElem_map, List.getElem_range, List.getElem_map]
  show comeP p.Q [th[k]?.getD (0, 0)] [1] (0, 0) = _
  rw [List.getElem?_eq_getElem hk, Option.getD_some, comeP_eq _ hq _ _ _ rfl (Int.le_refl 0) h0 (Int.le_refl 0) h0]
  simp [dotZ]
/-- Dealers and what they dealt, as a statement has them. -/
structure Deals (p : Par) (ds : List (Int × List (List Int))) : Prop where
  may : mayP p = true
  places : Places p.N (ds.map (·.1))
  some : 0 < ds.length
  cols : ∀ d ∈ ds, (d.2.length : Int) = secretsI p ∧ ∀ c ∈ d.2, (c.length : Int) = p.T + 1
theorem coms_good {p : Par} {ds : List (Int × List (List Int))} (h : Deals p ds) : comsE p ds = 0 := by
  obtain ⟨hq, hP, ha, n1, n2, n3, t1, t2, t3, hs, k1, d1⟩ := may_apart h.may
  have hw : wrap64 (p.T + 1) = p.T + 1 := wrap64_small (by omega)
  have ho : ds.any (fun d => !((d.2.length : Int) == secretsI p) || d.2.any (shortB p)) = false := List.any_eq_false.2 fun d hd => by
    obtain ⟨c1, c2⟩ := h.cols d hd
    have : d.2.any (shortB p) = false := List.any_eq_false.2 fun c hc => by simp [shortB, hw, c2 c hc]
    simp [c1, this]
  unfold comsE
  rw [hs, ho, members_of h.places n2 (by simpa using h.some), if_pos (by simp; omega)]
  exact werr_zero hq ha n3 h.places (by have := h.places.len n2; omega) 0
theorem Deals.rev {p : Par} {ds : List (Int × List (List Int))} (h : Deals p ds) : Deals p ds.reverse := ⟨h.may, by rw [List.map_reverse]; exact h.places.rev, by simpa using h.some, fun d hd => h.cols d (List.mem_reverse.1 hd)⟩
theorem coms_reverse {p : Par} {ds : List (Int × List (List Int))} (h : Deals p ds) : comsE p ds.reverse = 0 ∧ comsL p ds.reverse = comsL p ds := by
  obtain ⟨hq, hP, ha, n1, n2, n3, t1, t2, t3, hs, k1, d1⟩ := may_apart h.may
  refine ⟨coms_good h.rev, ?_⟩
  have hl : (ds.map (·.1)).length ≤ 1024 := by have := h.places.len n2; omega
  unfold comsL
  rw [if_pos (coms_good h), if_pos (coms_good h.rev)]
  refine List.map_congr_left fun s _ => List.map_congr_left fun j _ => ?_
  rw [List.map_reverse, List.map_reverse, wlist_reverse hq ha n3 h.places hl 0]
  refine comeU_reverse _ hP _ _ _ ?_ (times_nil_bd _ hP).1 (times_nil_bd _ hP).2
  rw [List.length_map, wlist_length hq ha n3 h.places hl 0, List.length_map]
theorem coms_one {p : Par} (x : Int) (col : List (List Int)) (h : Deals p [(x, col)]) (hb : ∀ c ∈ col, ∀ y ∈ c, 0 ≤ y ∧ y < p.P) : comsE p [(x, col)] = 0 ∧ comsL p [(x, col)] = col := by
  obtain ⟨hq, hP, ha, n1, n2, n3, t1, t2, t3, hs, k1, d1⟩ := may_apart h.may
  refine ⟨coms_good h, ?_⟩
  obtain ⟨c1, c2⟩ := h.cols _ (List.mem_singleton.2 rfl)
  have hx := h.places.1 x (by simp)
  unfold comsL
  rw [if_pos (coms_good h)]
  show (List.range (secretsI p).toNat).map (fun s => (List.range (p.T + 1).toNat).map fun j => comeU p.P [(col[s]?.getD [])[j]?.getD 0] (wList p.Q [x] 0) (timesI p.P [])) = col
  rw [wlist_one hq (by omega) ha n3 x hx 0]
  refine List.ext_getElem (by simp at c1 ⊢; omega) fun s s1 s2 => ?_
  rw [List.getElem_map, List.getElem_range, List.getElem?_eq_getElem s2, Option.getD_some]
  have hc := c2 _ (List.getElem_mem s2)
  refine List.ext_getElem (by simp at hc ⊢; omega) fun j j1 j2 => ?_
  rw [List.getElem_map, List.getElem_range, List.getElem?_eq_getElem j2, Option.getD_some, comeU_eq _ hP [col[s][j]] [1] _ rfl (times_nil_bd _ hP).1 (times_nil_bd _ hP).2, times_nil_eq _ hP]
  obtain ⟨b1, b2⟩ := hb _ (List.getElem_mem s2) _ (List.getElem_mem j2)
  show 1 % p.P * (col[s][j] ^ 1 * 1) % p.P = col[s][j]
  rw [Int.pow_succ, Int.pow_zero, Int.one_mul, Int.mul_one]
  have : Cg p.P (1 % p.P * col[s][j]) col[s][j] := ((Cg.mod p.P 1).mul_right _).trans (Cg.of_eq (Int.one_mul _))
  unfold Cg at this
  rw [this]
  exact Int.emod_eq_of_lt b1 b2
end Go.Proofs.YtmjdpmfcbeaecaaDoor

namespace Go.Proofs.YtmjdpmfcbeaecaaDoor
open Go

section
variable {P : Program} {Q : Exit → Act → World → Prop} {a0 : Act} {w0 : World}
def upTo (k m : Nat) : Array Bool := Array.replicate k true ++ Array.replicate (m - k) false
theorem upTo_at {k m i : Nat} (hk : k ≤ m) (d : Bool) : (upTo k m).getD i d = if i < k then true else if i < m then false else d := by
  unfold upTo
  rw [Array.getD_eq_getD_getElem?, Array.getElem?_append]
  by_cases h1 : i < k
  · simp [h1]
  · by_cases h2 : i < m
    · simp [h1, h2, show i - k < m - k by omega]
    · simp [h1, h2, show ¬ i - k < m - k by omega]
theorem upTo_set {k m : Nat} (hk : k < m) : (upTo k m).setIfInBounds k true = upTo (k + 1) m := by
  refine Array.ext (by simp [upTo]; omega) fun i h1 h2 => ?_
  have e1 := upTo_at (k := k + 1) (m := m) (i := i) (by omega) false
  have e2 := upTo_at (k := k) (m := m) (i := i) (by omega) false
  have h3 : i < (upTo k m).size := by simpa using h1
  rw [Array.getElem_setIfInBounds h3]
  rw [Array.getD_eq_getD_getElem?, Array.getElem?_eq_getElem h2] at e1
  rw [Array.getD_eq_getD_getElem?, Array.getElem?_eq_getElem h3] at e2
  simp only [Option.getD_some] at e1 e2
  rw [e1]
  split
  · rename_i h
    subst h
    simp
  · rename_i h
    rw [e2]
    by_cases h4 : i < k
    · simp [h4, show i < k + 1 by omega]
    · simp [h4, show ¬ i < k + 1 by omega]
def seqmB (ops : Array Oper) (n sz : Nat) : Bool := Region.noSelect ops && decide (n ≤ ops.size) && topoB ops n && distB ops n sz
theorem wpList_monoR {l : List Oper} (n : Nat) (hB : seqmB l.toArray n a0.tmps.size = true)
    (h : MonoR P l.toArray n a0 w0 (fun Vs => ∀ w, w0.grownBy w none → FinN P l.toArray Q w Vs l a0) n [] l) : wpList P l.toArray Q l a0 w0 := by
  obtain ⟨hM', hn'⟩ := MonoN.cut (MonoR.up h)
  simp only [seqmB, Bool.and_eq_true, decide_eq_true_eq] at hB
  obtain ⟨⟨⟨hsel, hn⟩, htopo⟩, hdist⟩ := hB
  obtain ⟨Vs, hVl, hF, hO⟩ := Mono.out hM'
  simp only [List.reverse_nil, List.nil_append, List.length_nil, Nat.zero_add] at hF hO
  have htl : (l.take n).length = n := by simp; omega
  have hVn : Vs.length = n := hVl.trans htl
  have hsz : l.toArray.size = l.length := by simp
  have key : ∀ m k a w, k + m = n → MInv l.toArray n a0 w0 Vs (upTo k l.toArray.size) a w → wpList P l.toArray Q (l.drop k) a w := by
    intro m
    induction m with
    | zero =>
      intro k a w hk inv
      obtain rfl : k = n := by omega
      have hk : ∀ (q : Nat) (V : Pv) (o : Oper), Vs[q]? = some V → (l.take k)[q]? = some o → V.p (match o.dst with | some d => a.eval (.tmp d) | none => undef) w := by
        intro q V o hv ho
        have hqn : q < k := by have := (List.getElem?_eq_some_iff.1 hv).1; omega
        have h1 := inv.known q V (by rw [upTo_at hn]; simp [hqn]) hv
        have h2 : dstAt l.toArray q = o.dst := by
          have : l[q]? = some o := by rw [List.getElem?_take, if_pos hqn] at ho; exact ho
          simp [dstAt, this]
        rw [h2] at h1
        have h3 : (match o.dst with | some d => a.eval (.tmp d) | none => undef) = valOf o.dst a := by cases o.dst <;> rfl
        rw [h3]
        exact h1
      have hcut := FinN.cut (by rw [hVn]; omega) (hF w inv.grown)
      rw [hVn] at hcut
      have hfin := Fin'.all hVl hk hcut
      have hon : onto a ((l.take k).map (·.dst)) a0 = a := by
        refine act_ext (fun t => onto_at a t _ _ inv.tsize.symm ?_) ((onto_defers _ _ _).trans inv.defers.symm)
        by_cases ht : some t ∈ (l.take k).map (·.dst)
        · exact .inl ht
        · refine .inr (inv.rest t fun j hj _ e => ht ?_).symm
          have hjl : j < l.length := by omega
          have : l[j].dst = some t := by simpa [dstAt, hjl] using e
          exact List.mem_map.2 ⟨l[j], List.mem_iff_getElem?.2 ⟨j, by rw [List.getElem?_take, if_pos hj, List.getElem?_eq_getElem hjl]⟩, this⟩
      rw [hon] at hfin
      exact hfin
    | succ m ih =>
      intro k a w hk inv
      have hkn : k < n := by omega
      have hkl : k < l.length := by omega
      have ho : l.toArray[k]? = some l[k] := by simp [hkl]
      have hnext : (l.take n)[k]? = some l[k] := by rw [List.getElem?_take, if_pos hkn, List.getElem?_eq_getElem hkl]
      obtain ⟨V, js, hV, hchk, hask⟩ := hO k l[k] hnext
      simp only [Bool.and_eq_true] at hchk
      obtain ⟨hpair, hlook⟩ := hchk
      have hu : (upTo k l.toArray.size).getD k true = false := by rw [upTo_at (by omega)]; simp [hkl]
      have hed : ∀ e ∈ l[k].after, Region.binds .any e = true → (upTo k l.toArray.size).getD e.on false = true := fun e he hb => by
        have ht := list_all_range htopo hkn
        simp only [ho, Option.map_some, Option.getD_some] at ht
        have := Array.all_eq_true_iff_forall_mem.1 ht e he
        rw [upTo_at (by omega)]
        simp only [hb, Bool.not_true, Bool.false_or, decide_eq_true_eq] at this
        simp [this]
      have hi : k ∈ Region.ready .any l.toArray (upTo k l.toArray.size) := mem_ready.2 ⟨hu, _, ho, hed⟩
      have hdst : ∀ d, l[k].dst = some d → d < a.tmps.size := by
        intro d hd
        have := list_all_range hdist hkn
        have h2 : dstAt l.toArray k = some d := by simp only [dstAt, ho]; exact hd
        rw [h2] at this
        simp only [Bool.and_eq_true, decide_eq_true_eq] at this
        rw [inv.tsize]
        exact this.1
      have hjs : ∀ x : Nat × Tmp, x ∈ js → dstAt l.toArray x.1 = some x.2 ∧ (upTo k l.toArray.size).getD x.1 false = true ∧ x.1 < k := by
        intro x hx
        have := List.all_eq_true.1 hpair x hx
        simp only [Bool.and_eq_true, beq_iff_eq] at this
        obtain ⟨oj, hoj, e, he, hb, hon⟩ := Region.waitsFor_spec this.2
        have hoo : l[k] = oj := Option.some.inj (ho.symm.trans hoj)
        subst hoo
        have ht := list_all_range htopo hkn
        simp only [ho, Option.map_some, Option.getD_some] at ht
        have ht := Array.all_eq_true_iff_forall_mem.1 ht e he
        simp only [hb, Bool.not_true, Bool.false_or, decide_eq_true_eq] at ht
        exact ⟨this.1, by rw [← hon]; exact hed e he hb, by rw [← hon]; exact ht⟩
      have hA := hask w inv.grown
      have hW := Ask.all (b := a) (fun x hx => by
        obtain ⟨h1, h2, h3⟩ := hjs x hx
        have hxl : x.1 < Vs.length := by omega
        have h4 : Vs[x.1]? = some Vs[x.1] := List.getElem?_eq_getElem hxl
        have h5 := inv.known x.1 _ h2 h4
        rw [h1] at h5
        have : (Vs.take k).getD x.1 Pv.any = Vs[x.1] := by
          rw [List.getD_eq_getElem?_getD, List.getElem?_take, if_pos h3, h4]
          rfl
        rw [this]
        exact h5) hA
      have hop := told_op (Q := Q) (ops := l.toArray) (a0 := a0) (a := a) (Region.noSelect_spec hsel k l[k] · · ho) hdst ((onto_size _ _ _).trans inv.tsize.symm) (fun t ht => by
        refine onto_at a t _ _ inv.tsize.symm ?_
        have h1 : (l[k].looksAt l.toArray).all (fun t => js.any (·.2 == t) || keptB l.toArray n k t) = true := by
          simpa only [lookB, ho, Option.map_some, Option.getD_some] using hlook
        have h2 := List.all_eq_true.1 h1 t ht
        simp only [Bool.or_eq_true] at h2
        rcases h2 with h2 | h2
        · left
          obtain ⟨x, hx, hxt⟩ := List.any_eq_true.1 h2
          exact List.mem_map.2 ⟨x, hx, by rw [beq_iff_eq.1 hxt]⟩
        · right
          refine (inv.rest t fun j hj hD e => ?_).symm
          have h3 := list_all_range h2 hj
          simp only [Bool.or_eq_true, bne_iff_ne, ne_eq, beq_iff_eq] at h3
          rcases h3 with (h3 | h3) | h3
          · exact h3 e
          · obtain ⟨oj, hoj, e', he', hb', hon⟩ := Region.waitsFor_spec h3
            have := inv.head.closed j oj hoj hD e' he' hb'
            rw [hon, getD_both hu] at this
            cases this
          · subst h3
            rw [getD_both hu] at hD
            cases hD) ho (onto_defers _ _ _) hW
      have hstep : wpOp P l.toArray Q k (wpList P l.toArray Q (l.drop (k + 1))) a w := wpOp_mono (fun a' w' hk' => by
        obtain ⟨v, ha, hv, hg⟩ := hk'
        have := minv_step inv hdist hi hkn ho hV (by omega) ha hv hg
        rw [upTo_set (by omega)] at this
        exact ih (k + 1) a' w' (by omega) this) hop
      rw [List.drop_eq_getElem_cons hkl]
      unfold wpOp at hstep
      simp only [ho] at hstep
      exact hstep
  refine key n 0 a0 w0 (by omega) ⟨⟨by simp [upTo], fun j oj hj hD => by rw [upTo_at (by omega)] at hD; simp at hD, fun t _ ht => by rw [upTo_at (by omega)]; simp at ht; simp [ht]⟩, World.grownBy.refl w0 none, rfl, rfl, fun _ _ => rfl, fun j V hD => by rw [upTo_at (by omega)] at hD; simp at hD⟩
theorem wp_region_seqm {l : List Oper} {id : Nat} (n : Nat) (hB : seqmB l.toArray n a0.tmps.size = true)
    (h : MonoR P l.toArray n a0 w0 (fun Vs => ∀ w, w0.grownBy w none → FinN P l.toArray Q w Vs l a0) n [] l) : (Code.region id l.toArray false).wp P Q a0 w0 :=
  wp_region_lit (wpList_monoR n hB h)
end
end Go.Proofs.YtmjdpmfcbeaecaaDoor

namespace Go.Proofs.YtmjdpmfcbeaecaaDoor
open Go Go.RowKit

def Pv.tup {α : Type} (E : Enc α) (xs : List α) (n : Int) : Pv := ⟨fun v w => ∃ u, v = .tuple #[u, .int .i64 n] ∧ Sl E TT w u xs, fun ⟨u, e, h⟩ hg => ⟨u, e, h.kept hg⟩⟩
def Pv.model (W : List (List Int)) (B : List Int) : Pv := ⟨fun v w => ∃ a b, v = .agg #[a, b] ∧ Sl (encS encI) TT w a W ∧ Sl encI TT w b B, fun ⟨a, b, e, h, k⟩ hg => ⟨a, b, e, h.kept hg, k.kept hg⟩⟩
def Pv.mtup (W : List (List Int)) (B : List Int) (n : Int) : Pv := ⟨fun v w => ∃ a b, v = .tuple #[.agg #[a, b], .int .i64 n] ∧ Sl (encS encI) TT w a W ∧ Sl encI TT w b B, fun ⟨a, b, e, h, k⟩ hg => ⟨a, b, e, h.kept hg, k.kept hg⟩⟩
def Pv.dealt (d : Int) (l : List (List Int)) : Pv := ⟨fun v w => ∃ u, v = .agg #[.int .i64 d, u] ∧ Sl (encS encU) TT w u l, fun ⟨u, e, h⟩ hg => ⟨u, e, h.kept hg⟩⟩
end Go.Proofs.YtmjdpmfcbeaecaaDoor

namespace Go.Proofs.YtmjdpmfcbeaecaaDoor
open Go Go.RowKit

set_option maxRecDepth 100000 in
set_option maxHeartbeats 4000000 in
theorem works20_any (w : World) : Calls Tryd.prog 6 #[] w fun e w' => e = .returned (.bool true) ∧ w.grownBy w' none := by
  go_enter Tryd.func6, Tryd.ntmps6
  go_wp2_with fail
  refine (small20_any w).mono ?_
  rintro e w2 ⟨rfl, hg⟩
  have HB : Hid (Bk (w2.alloc (.cells ps.cells 24)) w2.heap.size 24 ps.cells) := Lib.hid (Bk.new w2 _ _)
  have HG : Hid (w.grownBy (w2.alloc (.cells ps.cells 24)) none) := Lib.hid (hg.trans (World.grownBy_alloc _ _ none))
  clear hg
  go_upto_region 2 with (fail)
  obtain ⟨w3, hw3⟩ : ∃ w3, w2.alloc (.cells ps.cells 24) = w3 := ⟨_, rfl⟩
  rw [hw3] at HB HG ⊢
  clear hw3
  refine wp_region_seqm 8 (by kernel_rfl) ?_
  -- op 0 (slot 14): build
  refine MonoR.step (Pv.eq (.agg #[.int .u64 6, .int .u64 5])) [] (by kernel_rfl) (fun w' hw' => ?_) ?_
  · refine ask_do rfl fun K hK => ?_
    go_simp
    exact hK _ _ rfl rfl (World.grownBy.refl _ none)
  -- op 1 (slot 15): build
  refine MonoR.step (Pv.eq (.agg #[.int .u64 0, .int .u64 0])) [] (by kernel_rfl) (fun w' hw' => ?_) ?_
  · refine ask_do rfl fun K hK => ?_
    go_simp
    exact hK _ _ rfl rfl (World.grownBy.refl _ none)
  -- op 2 (slot 16): buildSlice
  refine MonoR.step (Pv.sl (encP) TT [(6, 5), (0, 0)]) [(0, 14), (1, 15)] (by kernel_rfl) (fun w' hw' => ?_) ?_
  · rintro _ rfl
    rintro _ rfl
    refine ask_do rfl fun K hK => ?_
    go_simp
    exact hK _ _ rfl (Sl.build [[.int .u64 6, .int .u64 5], [.int .u64 0, .int .u64 0]] rfl ⟨⟨rfl, by decide, by decide⟩, ⟨rfl, by decide, by decide⟩, trivial⟩ rfl (by decide)) (World.grownBy_alloc w' _ none)
  -- op 3 (slot 17): build
  refine MonoR.step (Pv.eq (.agg #[.int .u64 7, .int .u64 8])) [] (by kernel_rfl) (fun w' hw' => ?_) ?_
  · refine ask_do rfl fun K hK => ?_
    go_simp
    exact hK _ _ rfl rfl (World.grownBy.refl _ none)
  -- op 4 (slot 18): build
  refine MonoR.step (Pv.eq (.agg #[.int .u64 4, .int .u64 6])) [] (by kernel_rfl) (fun w' hw' => ?_) ?_
  · refine ask_do rfl fun K hK => ?_
    go_simp
    exact hK _ _ rfl rfl (World.grownBy.refl _ none)
  -- op 5 (slot 19): buildSlice
  refine MonoR.step (Pv.sl (encP) TT [(7, 8), (4, 6)]) [(3, 17), (4, 18)] (by kernel_rfl) (fun w' hw' => ?_) ?_
  · rintro _ rfl
    rintro _ rfl
    refine ask_do rfl fun K hK => ?_
    go_simp
    exact hK _ _ rfl (Sl.build [[.int .u64 7, .int .u64 8], [.int .u64 4, .int .u64 6]] rfl ⟨⟨rfl, by decide, by decide⟩, ⟨rfl, by decide, by decide⟩, trivial⟩ rfl (by decide)) (World.grownBy_alloc w' _ none)
  -- op 6 (slot 20): buildSlice
  refine MonoR.step (Pv.sl (encS encP) TT [[(6, 5), (0, 0)], [(7, 8), (4, 6)]]) [(2, 16), (5, 19)] (by kernel_rfl) (fun w' hw' => ?_) ?_
  · intro x16 h16
    have h16 : Sl (encP) TT w' x16 [(6, 5), (0, 0)] := h16
    obtain ⟨A16, c16, e16, k16, l16⟩ := h16.form
    have e16 : x16 = .slice A16 2 c16 := e16
    subst e16
    intro x19 h19
    have h19 : Sl (encP) TT w' x19 [(7, 8), (4, 6)] := h19
    obtain ⟨A19, c19, e19, k19, l19⟩ := h19.form
    have e19 : x19 = .slice A19 2 c19 := e19
    subst e19
    refine ask_do rfl fun K hK => ?_
    go_simp
    exact hK _ _ rfl (Sl.build [[.slice A16 2 c16], [.slice A19 2 c19]] rfl ⟨⟨_, rfl, h16⟩, ⟨_, rfl, h19⟩, trivial⟩ rfl (by decide)) (World.grownBy_alloc w' _ none)
  -- op 7 (slot 2): assign
  refine MonoR.step (Pv.sl (encS encP) TT [[(6, 5), (0, 0)], [(7, 8), (4, 6)]]) [(6, 20)] (by kernel_rfl) (fun w' hw' => ?_) ?_
  · intro x20 h20
    have h20 : Sl (encS encP) TT w' x20 [[(6, 5), (0, 0)], [(7, 8), (4, 6)]] := h20
    refine ask_do rfl fun K hK => ?_
    go_simp
    exact hK _ _ rfl h20 (World.grownBy.refl _ none)
  intro w4 hww4
  intro _ _
  intro _ _
  intro _ _
  intro _ _
  intro _ _
  intro _ _
  intro _ _
  intro v2 h2'
  simp only [Act.put, List.setIfInBounds_toArray, List.set_cons_zero, List.set_cons_succ]
  have HBd : Hid (Bk w4 w2.heap.size 24 ps.cells) := Lib.hid (Bk.grown HB.out hww4 (by simp))
  have HGd : Hid (w.grownBy w4 none) := Lib.hid ((HG.out).trans hww4)
  clear HB
  have HB := HBd
  clear HBd
  clear HG
  have HG := HGd
  clear HGd
  have HS2 : Hid (Sl (encS encP) TT w4 v2 [[(6, 5), (0, 0)], [(7, 8), (4, 6)]]) := Lib.hid h2'
  clear h2'
  clear hww4
  refine wpList_nil ?_
  go_upto_region 3 with (fail)
  refine wp_region_seqm 9 (by kernel_rfl) ?_
  -- op 0 (slot 22): load
  refine MonoR.step (Pv.eq (ps.v)) [] (by kernel_rfl) (fun w' hw' => ?_) ?_
  · refine ask_do rfl fun K hK => ?_
    have hp := (HB.out.grown hw' (by simp)).prule
    go_simp
    exact hK _ _ rfl rfl (World.grownBy.refl _ none)
  -- op 1 (slot 23): buildSlice
  refine MonoR.step (Pv.sl (encI) TT [1, 2]) [] (by kernel_rfl) (fun w' hw' => ?_) ?_
  · refine ask_do rfl fun K hK => ?_
    go_simp
    exact hK _ _ rfl (Sl.build [[.int .i64 1], [.int .i64 2]] rfl ⟨⟨rfl, ⟨by decide, by decide⟩⟩, ⟨rfl, ⟨by decide, by decide⟩⟩, trivial⟩ rfl (by decide)) (World.grownBy_alloc w' _ none)
  -- op 2 (slot 24): move
  refine MonoR.step (Pv.sl (encS encP) TT [[(6, 5), (0, 0)], [(7, 8), (4, 6)]]) [] (by kernel_rfl) (fun w' hw' => ?_) ?_
  · refine ask_do rfl fun K hK => ?_
    go_simp
    exact hK _ _ rfl (HS2.out.kept hw') (World.grownBy.refl _ none)
  -- op 3 (slot 25): call
  refine MonoR.step (Pv.tup (encP) [(5, 2), (7, 5)] 0) [(0, 22), (1, 23), (2, 24)] (by kernel_rfl) (fun w' hw' => ?_) ?_
  · rintro _ rfl
    intro x23 h23
    have h23 : Sl (encI) TT w' x23 [1, 2] := h23
    intro x24 h24
    have h24 : Sl (encS encP) TT w' x24 [[(6, 5), (0, 0)], [(7, 8), (4, 6)]] := h24
    refine ask_do rfl fun K hK => ?_
    go_simp
    refine (sum_any ps _ [1, 2] _ [[(6, 5), (0, 0)], [(7, 8), (4, 6)]] TT TT w' ps_ok h23 h24 (by decide) (by decide)).mono ?_
    rintro e w3 ⟨v3, he, h3, hg⟩
    rw [(show sumE ps [1, 2] [[(6, 5), (0, 0)], [(7, 8), (4, 6)]] = 0 by rw [sumE_eq]; decide +kernel)] at he
    rw [(show sumL ps [1, 2] [[(6, 5), (0, 0)], [(7, 8), (4, 6)]] = [(5, 2), (7, 5)] by rw [sumL_eq]; decide +kernel)] at h3
    subst he
    exact hK _ _ rfl ⟨_, rfl, h3.more (fun _ _ _ => trivial)⟩ hg
  -- op 4 (slot 21): move
  refine MonoR.step (Pv.tup (encP) [(5, 2), (7, 5)] 0) [(3, 25)] (by kernel_rfl) (fun w' hw' => ?_) ?_
  · intro x25 q25
    obtain ⟨u25, e25, h25⟩ : ∃ u, x25 = .tuple #[u, .int .i64 0] ∧ Sl (encP) TT w' u [(5, 2), (7, 5)] := q25
    subst e25
    refine ask_do rfl fun K hK => ?_
    go_simp
    exact hK _ _ rfl ⟨_, rfl, h25⟩ (World.grownBy.refl _ none)
  -- op 5 (slot 26): extract
  refine MonoR.step (Pv.sl (encP) TT [(5, 2), (7, 5)]) [(4, 21)] (by kernel_rfl) (fun w' hw' => ?_) ?_
  · intro x21 q21
    obtain ⟨u21, e21, h21⟩ : ∃ u, x21 = .tuple #[u, .int .i64 0] ∧ Sl (encP) TT w' u [(5, 2), (7, 5)] := q21
    subst e21
    refine ask_do rfl fun K hK => ?_
    go_simp
    exact hK _ _ rfl h21 (World.grownBy.refl _ none)
  -- op 6 (slot 27): extract
  refine MonoR.step (Pv.eq (.int .i64 0)) [(4, 21)] (by kernel_rfl) (fun w' hw' => ?_) ?_
  · intro x21 q21
    obtain ⟨u21, e21, h21⟩ : ∃ u, x21 = .tuple #[u, .int .i64 0] ∧ Sl (encP) TT w' u [(5, 2), (7, 5)] := q21
    subst e21
    refine ask_do rfl fun K hK => ?_
    go_simp
    exact hK _ _ rfl rfl (World.grownBy.refl _ none)
  -- op 7 (slot 3): assign
  refine MonoR.step (Pv.sl (encP) TT [(5, 2), (7, 5)]) [(5, 26)] (by kernel_rfl) (fun w' hw' => ?_) ?_
  · intro x26 h26
    have h26 : Sl (encP) TT w' x26 [(5, 2), (7, 5)] := h26
    refine ask_do rfl fun K hK => ?_
    go_simp
    exact hK _ _ rfl h26 (World.grownBy.refl _ none)
  -- op 8 (slot 4): assign
  refine MonoR.step (Pv.eq (.int .i64 0)) [(6, 27)] (by kernel_rfl) (fun w' hw' => ?_) ?_
  · rintro _ rfl
    refine ask_do rfl fun K hK => ?_
    go_simp
    exact hK _ _ rfl rfl (World.grownBy.refl _ none)
  intro w5 hww5
  intro _ _
  intro _ _
  intro _ _
  intro _ _
  intro _ _
  intro _ _
  intro _ _
  intro v3 h3'
  rintro _ rfl
  simp only [Act.put, List.setIfInBounds_toArray, List.set_cons_zero, List.set_cons_succ]
  have HBd : Hid (Bk w5 w2.heap.size 24 ps.cells) := Lib.hid (Bk.grown HB.out hww5 (by simp))
  have HGd : Hid (w.grownBy w5 none) := Lib.hid ((HG.out).trans hww5)
  have HS2d : Hid (Sl (encS encP) TT w5 v2 [[(6, 5), (0, 0)], [(7, 8), (4, 6)]]) := Lib.hid (Sl.kept HS2.out hww5)
  clear HB
  have HB := HBd
  clear HBd
  clear HG
  have HG := HGd
  clear HGd
  clear HS2
  have HS2 := HS2d
  clear HS2d
  have HS3 : Hid (Sl (encP) TT w5 v3 [(5, 2), (7, 5)]) := Lib.hid h3'
  clear h3'
  clear hww5
  refine wpList_nil ?_
  go_upto_region 4 with (fail)
  refine wp_region_seqm 9 (by kernel_rfl) ?_
  -- op 0 (slot 29): load
  refine MonoR.step (Pv.eq (ps.v)) [] (by kernel_rfl) (fun w' hw' => ?_) ?_
  · refine ask_do rfl fun K hK => ?_
    have hp := (HB.out.grown hw' (by simp)).prule
    go_simp
    exact hK _ _ rfl rfl (World.grownBy.refl _ none)
  -- op 1 (slot 30): buildSlice
  refine MonoR.step (Pv.sl (encI) TT [1, 1]) [] (by kernel_rfl) (fun w' hw' => ?_) ?_
  · refine ask_do rfl fun K hK => ?_
    go_simp
    exact hK _ _ rfl (Sl.build [[.int .i64 1], [.int .i64 1]] rfl ⟨⟨rfl, ⟨by decide, by decide⟩⟩, ⟨rfl, ⟨by decide, by decide⟩⟩, trivial⟩ rfl (by decide)) (World.grownBy_alloc w' _ none)
  -- op 2 (slot 31): move
  refine MonoR.step (Pv.sl (encS encP) TT [[(6, 5), (0, 0)], [(7, 8), (4, 6)]]) [] (by kernel_rfl) (fun w' hw' => ?_) ?_
  · refine ask_do rfl fun K hK => ?_
    go_simp
    exact hK _ _ rfl (HS2.out.kept hw') (World.grownBy.refl _ none)
  -- op 3 (slot 32): call
  refine MonoR.step (Pv.tup (encP) [] 6) [(0, 29), (1, 30), (2, 31)] (by kernel_rfl) (fun w' hw' => ?_) ?_
  · rintro _ rfl
    intro x30 h30
    have h30 : Sl (encI) TT w' x30 [1, 1] := h30
    intro x31 h31
    have h31 : Sl (encS encP) TT w' x31 [[(6, 5), (0, 0)], [(7, 8), (4, 6)]] := h31
    refine ask_do rfl fun K hK => ?_
    go_simp
    refine (sum_any ps _ [1, 1] _ [[(6, 5), (0, 0)], [(7, 8), (4, 6)]] TT TT w' ps_ok h30 h31 (by decide) (by decide)).mono ?_
    rintro e w3 ⟨v3, he, h3, hg⟩
    rw [(show sumE ps [1, 1] [[(6, 5), (0, 0)], [(7, 8), (4, 6)]] = 6 by rw [sumE_eq]; decide +kernel)] at he
    rw [(show sumL ps [1, 1] [[(6, 5), (0, 0)], [(7, 8), (4, 6)]] = [] by rw [sumL_eq]; decide +kernel)] at h3
    subst he
    exact hK _ _ rfl ⟨_, rfl, h3.more (fun _ _ _ => trivial)⟩ hg
  -- op 4 (slot 28): move
  refine MonoR.step (Pv.tup (encP) [] 6) [(3, 32)] (by kernel_rfl) (fun w' hw' => ?_) ?_
  · intro x32 q32
    obtain ⟨u32, e32, h32⟩ : ∃ u, x32 = .tuple #[u, .int .i64 6] ∧ Sl (encP) TT w' u [] := q32
    subst e32
    refine ask_do rfl fun K hK => ?_
    go_simp
    exact hK _ _ rfl ⟨_, rfl, h32⟩ (World.grownBy.refl _ none)
  -- op 5 (slot 33): extract
  refine MonoR.step (Pv.sl (encP) TT []) [(4, 28)] (by kernel_rfl) (fun w' hw' => ?_) ?_
  · intro x28 q28
    obtain ⟨u28, e28, h28⟩ : ∃ u, x28 = .tuple #[u, .int .i64 6] ∧ Sl (encP) TT w' u [] := q28
    subst e28
    refine ask_do rfl fun K hK => ?_
    go_simp
    exact hK _ _ rfl h28 (World.grownBy.refl _ none)
  -- op 6 (slot 34): extract
  refine MonoR.step (Pv.eq (.int .i64 6)) [(4, 28)] (by kernel_rfl) (fun w' hw' => ?_) ?_
  · intro x28 q28
    obtain ⟨u28, e28, h28⟩ : ∃ u, x28 = .tuple #[u, .int .i64 6] ∧ Sl (encP) TT w' u [] := q28
    subst e28
    refine ask_do rfl fun K hK => ?_
    go_simp
    exact hK _ _ rfl rfl (World.grownBy.refl _ none)
  -- op 7 (slot 5): assign
  refine MonoR.step (Pv.sl (encP) TT []) [(5, 33)] (by kernel_rfl) (fun w' hw' => ?_) ?_
  · intro x33 h33
    have h33 : Sl (encP) TT w' x33 [] := h33
    refine ask_do rfl fun K hK => ?_
    go_simp
    exact hK _ _ rfl h33 (World.grownBy.refl _ none)
  -- op 8 (slot 6): assign
  refine MonoR.step (Pv.eq (.int .i64 6)) [(6, 34)] (by kernel_rfl) (fun w' hw' => ?_) ?_
  · rintro _ rfl
    refine ask_do rfl fun K hK => ?_
    go_simp
    exact hK _ _ rfl rfl (World.grownBy.refl _ none)
  intro w6 hww6
  intro _ _
  intro _ _
  intro _ _
  intro _ _
  intro _ _
  intro _ _
  intro _ _
  intro _ _
  rintro _ rfl
  simp only [Act.put, List.setIfInBounds_toArray, List.set_cons_zero, List.set_cons_succ]
  have HBd : Hid (Bk w6 w2.heap.size 24 ps.cells) := Lib.hid (Bk.grown HB.out hww6 (by simp))
  have HGd : Hid (w.grownBy w6 none) := Lib.hid ((HG.out).trans hww6)
  have HS2d : Hid (Sl (encS encP) TT w6 v2 [[(6, 5), (0, 0)], [(7, 8), (4, 6)]]) := Lib.hid (Sl.kept HS2.out hww6)
  have HS3d : Hid (Sl (encP) TT w6 v3 [(5, 2), (7, 5)]) := Lib.hid (Sl.kept HS3.out hww6)
  clear HB
  have HB := HBd
  clear HBd
  clear HG
  have HG := HGd
  clear HGd
  clear HS2
  have HS2 := HS2d
  clear HS2d
  clear HS3
  have HS3 := HS3d
  clear HS3d
  clear hww6
  refine wpList_nil ?_
  go_upto_region 5 with (fail)
  refine wp_region_seqm 9 (by kernel_rfl) ?_
  -- op 0 (slot 36): load
  refine MonoR.step (Pv.eq (ps.v)) [] (by kernel_rfl) (fun w' hw' => ?_) ?_
  · refine ask_do rfl fun K hK => ?_
    have hp := (HB.out.grown hw' (by simp)).prule
    go_simp
    exact hK _ _ rfl rfl (World.grownBy.refl _ none)
  -- op 1 (slot 37): buildSlice
  refine MonoR.step (Pv.sl (encI) TT [1, 8]) [] (by kernel_rfl) (fun w' hw' => ?_) ?_
  · refine ask_do rfl fun K hK => ?_
    go_simp
    exact hK _ _ rfl (Sl.build [[.int .i64 1], [.int .i64 8]] rfl ⟨⟨rfl, ⟨by decide, by decide⟩⟩, ⟨rfl, ⟨by decide, by decide⟩⟩, trivial⟩ rfl (by decide)) (World.grownBy_alloc w' _ none)
  -- op 2 (slot 38): move
  refine MonoR.step (Pv.sl (encS encP) TT [[(6, 5), (0, 0)], [(7, 8), (4, 6)]]) [] (by kernel_rfl) (fun w' hw' => ?_) ?_
  · refine ask_do rfl fun K hK => ?_
    go_simp
    exact hK _ _ rfl (HS2.out.kept hw') (World.grownBy.refl _ none)
  -- op 3 (slot 39): call
  refine MonoR.step (Pv.tup (encP) [] 1) [(0, 36), (1, 37), (2, 38)] (by kernel_rfl) (fun w' hw' => ?_) ?_
  · rintro _ rfl
    intro x37 h37
    have h37 : Sl (encI) TT w' x37 [1, 8] := h37
    intro x38 h38
    have h38 : Sl (encS encP) TT w' x38 [[(6, 5), (0, 0)], [(7, 8), (4, 6)]] := h38
    refine ask_do rfl fun K hK => ?_
    go_simp
    refine (sum_any ps _ [1, 8] _ [[(6, 5), (0, 0)], [(7, 8), (4, 6)]] TT TT w' ps_ok h37 h38 (by decide) (by decide)).mono ?_
    rintro e w3 ⟨v3, he, h3, hg⟩
    rw [(show sumE ps [1, 8] [[(6, 5), (0, 0)], [(7, 8), (4, 6)]] = 1 by rw [sumE_eq]; decide +kernel)] at he
    rw [(show sumL ps [1, 8] [[(6, 5), (0, 0)], [(7, 8), (4, 6)]] = [] by rw [sumL_eq]; decide +kernel)] at h3
    subst he
    exact hK _ _ rfl ⟨_, rfl, h3.more (fun _ _ _ => trivial)⟩ hg
  -- op 4 (slot 35): move
  refine MonoR.step (Pv.tup (encP) [] 1) [(3, 39)] (by kernel_rfl) (fun w' hw' => ?_) ?_
  · intro x39 q39
    obtain ⟨u39, e39, h39⟩ : ∃ u, x39 = .tuple #[u, .int .i64 1] ∧ Sl (encP) TT w' u [] := q39
    subst e39
    refine ask_do rfl fun K hK => ?_
    go_simp
    exact hK _ _ rfl ⟨_, rfl, h39⟩ (World.grownBy.refl _ none)
  -- op 5 (slot 40): extract
  refine MonoR.step (Pv.sl (encP) TT []) [(4, 35)] (by kernel_rfl) (fun w' hw' => ?_) ?_
  · intro x35 q35
    obtain ⟨u35, e35, h35⟩ : ∃ u, x35 = .tuple #[u, .int .i64 1] ∧ Sl (encP) TT w' u [] := q35
    subst e35
    refine ask_do rfl fun K hK => ?_
    go_simp
    exact hK _ _ rfl h35 (World.grownBy.refl _ none)
  -- op 6 (slot 41): extract
  refine MonoR.step (Pv.eq (.int .i64 1)) [(4, 35)] (by kernel_rfl) (fun w' hw' => ?_) ?_
  · intro x35 q35
    obtain ⟨u35, e35, h35⟩ : ∃ u, x35 = .tuple #[u, .int .i64 1] ∧ Sl (encP) TT w' u [] := q35
    subst e35
    refine ask_do rfl fun K hK => ?_
    go_simp
    exact hK _ _ rfl rfl (World.grownBy.refl _ none)
  -- op 7 (slot 7): assign
  refine MonoR.step (Pv.sl (encP) TT []) [(5, 40)] (by kernel_rfl) (fun w' hw' => ?_) ?_
  · intro x40 h40
    have h40 : Sl (encP) TT w' x40 [] := h40
    refine ask_do rfl fun K hK => ?_
    go_simp
    exact hK _ _ rfl h40 (World.grownBy.refl _ none)
  -- op 8 (slot 8): assign
  refine MonoR.step (Pv.eq (.int .i64 1)) [(6, 41)] (by kernel_rfl) (fun w' hw' => ?_) ?_
  · rintro _ rfl
    refine ask_do rfl fun K hK => ?_
    go_simp
    exact hK _ _ rfl rfl (World.grownBy.refl _ none)
  intro w7 hww7
  intro _ _
  intro _ _
  intro _ _
  intro _ _
  intro _ _
  intro _ _
  intro _ _
  intro _ _
  rintro _ rfl
  simp only [Act.put, List.setIfInBounds_toArray, List.set_cons_zero, List.set_cons_succ]
  have HBd : Hid (Bk w7 w2.heap.size 24 ps.cells) := Lib.hid (Bk.grown HB.out hww7 (by simp))
  have HGd : Hid (w.grownBy w7 none) := Lib.hid ((HG.out).trans hww7)
  have HS2d : Hid (Sl (encS encP) TT w7 v2 [[(6, 5), (0, 0)], [(7, 8), (4, 6)]]) := Lib.hid (Sl.kept HS2.out hww7)
  have HS3d : Hid (Sl (encP) TT w7 v3 [(5, 2), (7, 5)]) := Lib.hid (Sl.kept HS3.out hww7)
  clear HB
  have HB := HBd
  clear HBd
  clear HG
  have HG := HGd
  clear HGd
  clear HS2
  have HS2 := HS2d
  clear HS2d
  clear HS3
  have HS3 := HS3d
  clear HS3d
  clear hww7
  refine wpList_nil ?_
  clear HS2
  go_upto_region 6 with (fail)
  refine wp_region_seqm 6 (by kernel_rfl) ?_
  -- op 0 (slot 43): load
  refine MonoR.step (Pv.eq (ps.v)) [] (by kernel_rfl) (fun w' hw' => ?_) ?_
  · refine ask_do rfl fun K hK => ?_
    have hp := (HB.out.grown hw' (by simp)).prule
    go_simp
    exact hK _ _ rfl rfl (World.grownBy.refl _ none)
  -- op 1 (slot 44): buildSlice
  refine MonoR.step (Pv.sl (encU) TT [1, 10]) [] (by kernel_rfl) (fun w' hw' => ?_) ?_
  · refine ask_do rfl fun K hK => ?_
    go_simp
    exact hK _ _ rfl (Sl.build [[.int .u64 1], [.int .u64 10]] rfl ⟨⟨rfl, ⟨by decide, by decide⟩⟩, ⟨rfl, ⟨by decide, by decide⟩⟩, trivial⟩ rfl (by decide)) (World.grownBy_alloc w' _ none)
  -- op 2 (slot 45): call
  refine MonoR.step (Pv.mtup [[1]] [(-1)] 0) [(0, 43), (1, 44)] (by kernel_rfl) (fun w' hw' => ?_) ?_
  · rintro _ rfl
    intro x44 h44
    have h44 : Sl (encU) TT w' x44 [1, 10] := h44
    refine ask_do rfl fun K hK => ?_
    go_simp
    refine (smodel_any ps _ [1, 10] TT w' ps_ok h44 (by decide)).mono ?_
    rintro e w3 ⟨a3, b3, he, h3, k3, _, hg⟩
    rw [(show modelE ps [1, 10] = 0 by decide +kernel)] at he
    rw [(show modelW ps [1, 10] = [[1]] by decide +kernel)] at h3
    rw [(show modelB ps [1, 10] = [(-1)] by decide +kernel)] at k3
    subst he
    exact hK _ _ rfl ⟨_, _, rfl, h3.plain.more (fun _ _ _ => trivial), k3.more (fun _ _ _ => trivial)⟩ hg
  -- op 3 (slot 42): move
  refine MonoR.step (Pv.mtup [[1]] [(-1)] 0) [(2, 45)] (by kernel_rfl) (fun w' hw' => ?_) ?_
  · intro x45 q45
    obtain ⟨a45, b45, e45, h45, k45⟩ : ∃ a b, x45 = .tuple #[.agg #[a, b], .int .i64 0] ∧ Sl (encS encI) TT w' a [[1]] ∧ Sl encI TT w' b [(-1)] := q45
    subst e45
    refine ask_do rfl fun K hK => ?_
    go_simp
    exact hK _ _ rfl ⟨_, _, rfl, h45, k45⟩ (World.grownBy.refl _ none)
  -- op 4 (slot 46): extract
  refine MonoR.step (Pv.model [[1]] [(-1)]) [(3, 42)] (by kernel_rfl) (fun w' hw' => ?_) ?_
  · intro x42 q42
    obtain ⟨a42, b42, e42, h42, k42⟩ : ∃ a b, x42 = .tuple #[.agg #[a, b], .int .i64 0] ∧ Sl (encS encI) TT w' a [[1]] ∧ Sl encI TT w' b [(-1)] := q42
    subst e42
    refine ask_do rfl fun K hK => ?_
    go_simp
    exact hK _ _ rfl ⟨_, _, rfl, h42, k42⟩ (World.grownBy.refl _ none)
  -- op 5 (slot 47): extract
  refine MonoR.step (Pv.eq (.int .i64 0)) [(3, 42)] (by kernel_rfl) (fun w' hw' => ?_) ?_
  · intro x42 q42
    obtain ⟨a42, b42, e42, h42, k42⟩ : ∃ a b, x42 = .tuple #[.agg #[a, b], .int .i64 0] ∧ Sl (encS encI) TT w' a [[1]] ∧ Sl encI TT w' b [(-1)] := q42
    subst e42
    refine ask_do rfl fun K hK => ?_
    go_simp
    exact hK _ _ rfl rfl (World.grownBy.refl _ none)
  intro w8 hww8
  intro _ _
  intro _ _
  intro _ _
  intro _ _
  intro v46 h46'
  rintro _ rfl
  simp only [Act.put, List.setIfInBounds_toArray, List.set_cons_zero, List.set_cons_succ]
  have HBd : Hid (Bk w8 w2.heap.size 24 ps.cells) := Lib.hid (Bk.grown HB.out hww8 (by simp))
  have HGd : Hid (w.grownBy w8 none) := Lib.hid ((HG.out).trans hww8)
  have HS3d : Hid (Sl (encP) TT w8 v3 [(5, 2), (7, 5)]) := Lib.hid (Sl.kept HS3.out hww8)
  clear HB
  have HB := HBd
  clear HBd
  clear HG
  have HG := HGd
  clear HGd
  clear HS3
  have HS3 := HS3d
  clear HS3d
  obtain ⟨a46, b46, e46, ha46, hb46⟩ := h46'
  subst e46
  have HA46 : Hid (Sl (encS encI) TT w8 a46 [[1]]) := Lib.hid ha46
  have HBB46 : Hid (Sl encI TT w8 b46 [(-1)]) := Lib.hid hb46
  clear ha46 hb46
  clear hww8
  show wpList Tryd.prog _ _ _ _ w8
  obtain ⟨A46, n46, c46, rfl⟩ := HA46.out.shape
  obtain ⟨D46, m46, d46, rfl⟩ := HBB46.out.shape
  obtain ⟨w9, hww9⟩ : ∃ x, w8.alloc (.cells #[.slice A46 n46 c46, .slice D46 m46 d46] 59) = x := ⟨_, rfl⟩
  have HM9 : Hid (Bk w9 w8.heap.size 59 #[.slice A46 n46 c46, .slice D46 m46 d46]) := Lib.hid (by rw [← hww9]; exact Bk.new _ _ _)
  have HMG9 : Hid (w8.grownBy w9 none) := Lib.hid (by rw [← hww9]; exact World.grownBy_alloc _ _ none)
  have HBd : Hid (Bk w9 w2.heap.size 24 ps.cells) := Lib.hid (Bk.grown HB.out HMG9.out (by simp))
  have HGd : Hid (w.grownBy w9 none) := Lib.hid ((HG.out).trans HMG9.out)
  have HS3d : Hid (Sl (encP) TT w9 v3 [(5, 2), (7, 5)]) := Lib.hid (Sl.kept HS3.out HMG9.out)
  have HA46d : Hid (Sl (encS encI) TT w9 (.slice A46 n46 c46) [[1]]) := Lib.hid (Sl.kept HA46.out HMG9.out)
  have HBB46d : Hid (Sl encI TT w9 (.slice D46 m46 d46) [(-1)]) := Lib.hid (Sl.kept HBB46.out HMG9.out)
  clear HB
  have HB := HBd
  clear HBd
  clear HG
  have HG := HGd
  clear HGd
  clear HS3
  have HS3 := HS3d
  clear HS3d
  clear HA46
  have HA46 := HA46d
  clear HA46d
  clear HBB46
  have HBB46 := HBB46d
  clear HBB46d
  go_upto_region 7 with (fail)
  try rw [hww9]
  clear hww9
  refine wp_region_seqm 6 (by kernel_rfl) ?_
  -- op 0 (slot 49): load
  refine MonoR.step (Pv.eq (ps.v)) [] (by kernel_rfl) (fun w' hw' => ?_) ?_
  · refine ask_do rfl fun K hK => ?_
    have hp := (HB.out.grown hw' (by simp)).prule
    go_simp
    exact hK _ _ rfl rfl (World.grownBy.refl _ none)
  -- op 1 (slot 50): buildSlice
  refine MonoR.step (Pv.sl (encU) TT [2, 0]) [] (by kernel_rfl) (fun w' hw' => ?_) ?_
  · refine ask_do rfl fun K hK => ?_
    go_simp
    exact hK _ _ rfl (Sl.build [[.int .u64 2], [.int .u64 0]] rfl ⟨⟨rfl, ⟨by decide, by decide⟩⟩, ⟨rfl, ⟨by decide, by decide⟩⟩, trivial⟩ rfl (by decide)) (World.grownBy_alloc w' _ none)
  -- op 2 (slot 51): call
  refine MonoR.step (Pv.mtup [] [] 20) [(0, 49), (1, 50)] (by kernel_rfl) (fun w' hw' => ?_) ?_
  · rintro _ rfl
    intro x50 h50
    have h50 : Sl (encU) TT w' x50 [2, 0] := h50
    refine ask_do rfl fun K hK => ?_
    go_simp
    refine (smodel_any ps _ [2, 0] TT w' ps_ok h50 (by decide)).mono ?_
    rintro e w3 ⟨a3, b3, he, h3, k3, _, hg⟩
    rw [(show modelE ps [2, 0] = 20 by decide +kernel)] at he
    rw [(show modelW ps [2, 0] = [] by decide +kernel)] at h3
    rw [(show modelB ps [2, 0] = [] by decide +kernel)] at k3
    subst he
    exact hK _ _ rfl ⟨_, _, rfl, h3.plain.more (fun _ _ _ => trivial), k3.more (fun _ _ _ => trivial)⟩ hg
  -- op 3 (slot 48): move
  refine MonoR.step (Pv.mtup [] [] 20) [(2, 51)] (by kernel_rfl) (fun w' hw' => ?_) ?_
  · intro x51 q51
    obtain ⟨a51, b51, e51, h51, k51⟩ : ∃ a b, x51 = .tuple #[.agg #[a, b], .int .i64 20] ∧ Sl (encS encI) TT w' a [] ∧ Sl encI TT w' b [] := q51
    subst e51
    refine ask_do rfl fun K hK => ?_
    go_simp
    exact hK _ _ rfl ⟨_, _, rfl, h51, k51⟩ (World.grownBy.refl _ none)
  -- op 4 (slot 52): extract
  refine MonoR.step (Pv.model [] []) [(3, 48)] (by kernel_rfl) (fun w' hw' => ?_) ?_
  · intro x48 q48
    obtain ⟨a48, b48, e48, h48, k48⟩ : ∃ a b, x48 = .tuple #[.agg #[a, b], .int .i64 20] ∧ Sl (encS encI) TT w' a [] ∧ Sl encI TT w' b [] := q48
    subst e48
    refine ask_do rfl fun K hK => ?_
    go_simp
    exact hK _ _ rfl ⟨_, _, rfl, h48, k48⟩ (World.grownBy.refl _ none)
  -- op 5 (slot 53): extract
  refine MonoR.step (Pv.eq (.int .i64 20)) [(3, 48)] (by kernel_rfl) (fun w' hw' => ?_) ?_
  · intro x48 q48
    obtain ⟨a48, b48, e48, h48, k48⟩ : ∃ a b, x48 = .tuple #[.agg #[a, b], .int .i64 20] ∧ Sl (encS encI) TT w' a [] ∧ Sl encI TT w' b [] := q48
    subst e48
    refine ask_do rfl fun K hK => ?_
    go_simp
    exact hK _ _ rfl rfl (World.grownBy.refl _ none)
  intro w10 hww10
  intro _ _
  intro _ _
  intro _ _
  intro _ _
  intro v52 h52'
  rintro _ rfl
  simp only [Act.put, List.setIfInBounds_toArray, List.set_cons_zero, List.set_cons_succ]
  have HBd : Hid (Bk w10 w2.heap.size 24 ps.cells) := Lib.hid (Bk.grown HB.out hww10 (by simp))
  have HGd : Hid (w.grownBy w10 none) := Lib.hid ((HG.out).trans hww10)
  have HS3d : Hid (Sl (encP) TT w10 v3 [(5, 2), (7, 5)]) := Lib.hid (Sl.kept HS3.out hww10)
  have HA46d : Hid (Sl (encS encI) TT w10 (.slice A46 n46 c46) [[1]]) := Lib.hid (Sl.kept HA46.out hww10)
  have HBB46d : Hid (Sl encI TT w10 (.slice D46 m46 d46) [(-1)]) := Lib.hid (Sl.kept HBB46.out hww10)
  have HM9d : Hid (Bk w10 w8.heap.size 59 #[.slice A46 n46 c46, .slice D46 m46 d46]) := Lib.hid (Bk.grown HM9.out hww10 (by simp))
  clear HB
  have HB := HBd
  clear HBd
  clear HG
  have HG := HGd
  clear HGd
  clear HS3
  have HS3 := HS3d
  clear HS3d
  clear HA46
  have HA46 := HA46d
  clear HA46d
  clear HBB46
  have HBB46 := HBB46d
  clear HBB46d
  clear HM9
  have HM9 := HM9d
  clear HM9d
  obtain ⟨a52, b52, e52, ha52, hb52⟩ := h52'
  subst e52
  have HA52 : Hid (Sl (encS encI) TT w10 a52 []) := Lib.hid ha52
  have HBB52 : Hid (Sl encI TT w10 b52 []) := Lib.hid hb52
  clear ha52 hb52
  clear hww10
  show wpList Tryd.prog _ _ _ _ w10
  obtain ⟨A52, n52, c52, rfl⟩ := HA52.out.shape
  obtain ⟨D52, m52, d52, rfl⟩ := HBB52.out.shape
  obtain ⟨w11, hww11⟩ : ∃ x, w10.alloc (.cells #[.slice A52 n52 c52, .slice D52 m52 d52] 59) = x := ⟨_, rfl⟩
  have HM11 : Hid (Bk w11 w10.heap.size 59 #[.slice A52 n52 c52, .slice D52 m52 d52]) := Lib.hid (by rw [← hww11]; exact Bk.new _ _ _)
  have HMG11 : Hid (w10.grownBy w11 none) := Lib.hid (by rw [← hww11]; exact World.grownBy_alloc _ _ none)
  have HBd : Hid (Bk w11 w2.heap.size 24 ps.cells) := Lib.hid (Bk.grown HB.out HMG11.out (by simp))
  have HGd : Hid (w.grownBy w11 none) := Lib.hid ((HG.out).trans HMG11.out)
  have HS3d : Hid (Sl (encP) TT w11 v3 [(5, 2), (7, 5)]) := Lib.hid (Sl.kept HS3.out HMG11.out)
  have HA46d : Hid (Sl (encS encI) TT w11 (.slice A46 n46 c46) [[1]]) := Lib.hid (Sl.kept HA46.out HMG11.out)
  have HBB46d : Hid (Sl encI TT w11 (.slice D46 m46 d46) [(-1)]) := Lib.hid (Sl.kept HBB46.out HMG11.out)
  have HM9d : Hid (Bk w11 w8.heap.size 59 #[.slice A46 n46 c46, .slice D46 m46 d46]) := Lib.hid (Bk.grown HM9.out HMG11.out (by simp))
  have HA52d : Hid (Sl (encS encI) TT w11 (.slice A52 n52 c52) []) := Lib.hid (Sl.kept HA52.out HMG11.out)
  have HBB52d : Hid (Sl encI TT w11 (.slice D52 m52 d52) []) := Lib.hid (Sl.kept HBB52.out HMG11.out)
  clear HB
  have HB := HBd
  clear HBd
  clear HG
  have HG := HGd
  clear HGd
  clear HS3
  have HS3 := HS3d
  clear HS3d
  clear HA46
  have HA46 := HA46d
  clear HA46d
  clear HBB46
  have HBB46 := HBB46d
  clear HBB46d
  clear HM9
  have HM9 := HM9d
  clear HM9d
  clear HA52
  have HA52 := HA52d
  clear HA52d
  clear HBB52
  have HBB52 := HBB52d
  clear HBB52d
  go_upto_region 8 with (fail)
  try rw [hww11]
  clear hww11
  refine wp_region_seqm 34 (by kernel_rfl) ?_
  -- op 0 (slot 54): move
  refine MonoR.step (Pv.eq (.int .i64 0)) [] (by kernel_rfl) (fun w' hw' => ?_) ?_
  · refine ask_do rfl fun K hK => ?_
    go_simp
    exact hK _ _ rfl rfl (World.grownBy.refl _ none)
  -- op 1 (slot 55): binOp
  refine MonoR.step (Pv.eq (.bool true)) [(0, 54)] (by kernel_rfl) (fun w' hw' => ?_) ?_
  · rintro _ rfl
    refine ask_do rfl fun K hK => ?_
    go_simp
    exact hK _ _ rfl rfl (World.grownBy.refl _ none)
  -- op 2 (slot 56): move
  refine MonoR.step (Pv.eq (.bool true)) [(1, 55)] (by kernel_rfl) (fun w' hw' => ?_) ?_
  · rintro _ rfl
    refine ask_do rfl fun K hK => ?_
    go_simp
    exact hK _ _ rfl rfl (World.grownBy.refl _ none)
  -- op 3 (slot 57): move
  refine MonoR.step (Pv.sl (encP) TT [(5, 2), (7, 5)]) [(2, 56)] (by kernel_rfl) (fun w' hw' => ?_) ?_
  · rintro _ rfl
    refine ask_do rfl fun K hK => ?_
    go_simp
    exact hK _ _ rfl (HS3.out.kept hw') (World.grownBy.refl _ none)
  -- op 4 (slot 58): build
  refine MonoR.step (Pv.eq (.agg #[.int .u64 5, .int .u64 2])) [(2, 56)] (by kernel_rfl) (fun w' hw' => ?_) ?_
  · rintro _ rfl
    refine ask_do rfl fun K hK => ?_
    go_simp
    exact hK _ _ rfl rfl (World.grownBy.refl _ none)
  -- op 5 (slot 59): build
  refine MonoR.step (Pv.eq (.agg #[.int .u64 7, .int .u64 5])) [(2, 56)] (by kernel_rfl) (fun w' hw' => ?_) ?_
  · rintro _ rfl
    refine ask_do rfl fun K hK => ?_
    go_simp
    exact hK _ _ rfl rfl (World.grownBy.refl _ none)
  -- op 6 (slot 60): buildSlice
  refine MonoR.step (Pv.sl (encP) TT [(5, 2), (7, 5)]) [(2, 56), (4, 58), (5, 59)] (by kernel_rfl) (fun w' hw' => ?_) ?_
  · rintro _ rfl
    rintro _ rfl
    rintro _ rfl
    refine ask_do rfl fun K hK => ?_
    go_simp
    exact hK _ _ rfl (Sl.build [[.int .u64 5, .int .u64 2], [.int .u64 7, .int .u64 5]] rfl ⟨⟨rfl, by decide, by decide⟩, ⟨rfl, by decide, by decide⟩, trivial⟩ rfl (by decide)) (World.grownBy_alloc w' _ none)
  -- op 7 (slot 61): call
  refine MonoR.step (Pv.eq (.bool true)) [(2, 56), (3, 57), (6, 60)] (by kernel_rfl) (fun w' hw' => ?_) ?_
  · rintro _ rfl
    intro x57 h57
    have h57 : Sl (encP) TT w' x57 [(5, 2), (7, 5)] := h57
    intro x60 h60
    have h60 : Sl (encP) TT w' x60 [(5, 2), (7, 5)] := h60
    refine ask_do rfl fun K hK => ?_
    go_simp
    refine (same_eq _ _ [(5, 2), (7, 5)] TT TT w' h57 h60).mono ?_
    rintro e w3 ⟨rfl, m3, rfl⟩
    exact hK _ _ rfl rfl (grown_drewN' w' m3)
  -- op 8 (slot 62): pick
  refine MonoR.step (Pv.eq (.bool true)) [(2, 56), (7, 61)] (by kernel_rfl) (fun w' hw' => ?_) ?_
  · rintro _ rfl
    rintro _ rfl
    refine ask_do rfl fun K hK => ?_
    go_simp
    exact hK _ _ rfl rfl (World.grownBy.refl _ none)
  -- op 9 (slot 63): move
  refine MonoR.step (Pv.eq (.bool true)) [(8, 62)] (by kernel_rfl) (fun w' hw' => ?_) ?_
  · rintro _ rfl
    refine ask_do rfl fun K hK => ?_
    go_simp
    exact hK _ _ rfl rfl (World.grownBy.refl _ none)
  -- op 10 (slot 64): move
  refine MonoR.step (Pv.eq (.int .i64 6)) [(9, 63)] (by kernel_rfl) (fun w' hw' => ?_) ?_
  · rintro _ rfl
    refine ask_do rfl fun K hK => ?_
    go_simp
    exact hK _ _ rfl rfl (World.grownBy.refl _ none)
  -- op 11 (slot 65): binOp
  refine MonoR.step (Pv.eq (.bool true)) [(9, 63), (10, 64)] (by kernel_rfl) (fun w' hw' => ?_) ?_
  · rintro _ rfl
    rintro _ rfl
    refine ask_do rfl fun K hK => ?_
    go_simp
    exact hK _ _ rfl rfl (World.grownBy.refl _ none)
  -- op 12 (slot 66): pick
  refine MonoR.step (Pv.eq (.bool true)) [(9, 63), (11, 65)] (by kernel_rfl) (fun w' hw' => ?_) ?_
  · rintro _ rfl
    rintro _ rfl
    refine ask_do rfl fun K hK => ?_
    go_simp
    exact hK _ _ rfl rfl (World.grownBy.refl _ none)
  -- op 13 (slot 67): move
  refine MonoR.step (Pv.eq (.bool true)) [(12, 66)] (by kernel_rfl) (fun w' hw' => ?_) ?_
  · rintro _ rfl
    refine ask_do rfl fun K hK => ?_
    go_simp
    exact hK _ _ rfl rfl (World.grownBy.refl _ none)
  -- op 14 (slot 68): move
  refine MonoR.step (Pv.eq (.int .i64 1)) [(13, 67)] (by kernel_rfl) (fun w' hw' => ?_) ?_
  · rintro _ rfl
    refine ask_do rfl fun K hK => ?_
    go_simp
    exact hK _ _ rfl rfl (World.grownBy.refl _ none)
  -- op 15 (slot 69): binOp
  refine MonoR.step (Pv.eq (.bool true)) [(13, 67), (14, 68)] (by kernel_rfl) (fun w' hw' => ?_) ?_
  · rintro _ rfl
    rintro _ rfl
    refine ask_do rfl fun K hK => ?_
    go_simp
    exact hK _ _ rfl rfl (World.grownBy.refl _ none)
  -- op 16 (slot 70): pick
  refine MonoR.step (Pv.eq (.bool true)) [(13, 67), (15, 69)] (by kernel_rfl) (fun w' hw' => ?_) ?_
  · rintro _ rfl
    rintro _ rfl
    refine ask_do rfl fun K hK => ?_
    go_simp
    exact hK _ _ rfl rfl (World.grownBy.refl _ none)
  -- op 17 (slot 71): move
  refine MonoR.step (Pv.eq (.bool true)) [(16, 70)] (by kernel_rfl) (fun w' hw' => ?_) ?_
  · rintro _ rfl
    refine ask_do rfl fun K hK => ?_
    go_simp
    exact hK _ _ rfl rfl (World.grownBy.refl _ none)
  -- op 18 (slot 72): move
  refine MonoR.step (Pv.eq (.int .i64 0)) [(17, 71)] (by kernel_rfl) (fun w' hw' => ?_) ?_
  · rintro _ rfl
    refine ask_do rfl fun K hK => ?_
    go_simp
    exact hK _ _ rfl rfl (World.grownBy.refl _ none)
  -- op 19 (slot 73): binOp
  refine MonoR.step (Pv.eq (.bool true)) [(17, 71), (18, 72)] (by kernel_rfl) (fun w' hw' => ?_) ?_
  · rintro _ rfl
    rintro _ rfl
    refine ask_do rfl fun K hK => ?_
    go_simp
    exact hK _ _ rfl rfl (World.grownBy.refl _ none)
  -- op 20 (slot 74): pick
  refine MonoR.step (Pv.eq (.bool true)) [(17, 71), (19, 73)] (by kernel_rfl) (fun w' hw' => ?_) ?_
  · rintro _ rfl
    rintro _ rfl
    refine ask_do rfl fun K hK => ?_
    go_simp
    exact hK _ _ rfl rfl (World.grownBy.refl _ none)
  -- op 21 (slot 75): move
  refine MonoR.step (Pv.eq (.bool true)) [(20, 74)] (by kernel_rfl) (fun w' hw' => ?_) ?_
  · rintro _ rfl
    refine ask_do rfl fun K hK => ?_
    go_simp
    exact hK _ _ rfl rfl (World.grownBy.refl _ none)
  -- op 22 (slot 76): load
  refine MonoR.step (Pv.model [[1]] [(-1)]) [(21, 75)] (by kernel_rfl) (fun w' hw' => ?_) ?_
  · rintro _ rfl
    refine ask_do rfl fun K hK => ?_
    have hm0 := (HM9.out.grown hw' (by simp)).cell 0
    have hm1 := (HM9.out.grown hw' (by simp)).cell 1
    simp at hm0 hm1
    go_simp
    exact hK _ _ rfl ⟨_, _, rfl, HA46.out.kept hw', HBB46.out.kept hw'⟩ (World.grownBy.refl _ none)
  -- op 23 (slot 77): buildSlice
  refine MonoR.step (Pv.sl (encI) TT [1]) [(21, 75)] (by kernel_rfl) (fun w' hw' => ?_) ?_
  · rintro _ rfl
    refine ask_do rfl fun K hK => ?_
    go_simp
    exact hK _ _ rfl (Sl.build [[.int .i64 1]] rfl ⟨⟨rfl, ⟨by decide, by decide⟩⟩, trivial⟩ rfl (by decide)) (World.grownBy_alloc w' _ none)
  -- op 24 (slot 78): buildSlice
  refine MonoR.step (Pv.sl (encS encI) TT [[1]]) [(21, 75), (23, 77)] (by kernel_rfl) (fun w' hw' => ?_) ?_
  · rintro _ rfl
    intro x77 h77
    have h77 : Sl (encI) TT w' x77 [1] := h77
    obtain ⟨A77, c77, e77, k77, l77⟩ := h77.form
    have e77 : x77 = .slice A77 1 c77 := e77
    subst e77
    refine ask_do rfl fun K hK => ?_
    go_simp
    exact hK _ _ rfl (Sl.build [[.slice A77 1 c77]] rfl ⟨⟨_, rfl, h77⟩, trivial⟩ rfl (by decide)) (World.grownBy_alloc w' _ none)
  -- op 25 (slot 79): buildSlice
  refine MonoR.step (Pv.sl (encI) TT [(-1)]) [(21, 75)] (by kernel_rfl) (fun w' hw' => ?_) ?_
  · rintro _ rfl
    refine ask_do rfl fun K hK => ?_
    go_simp
    exact hK _ _ rfl (Sl.build [[.int .i64 (-1)]] rfl ⟨⟨rfl, ⟨by decide, by decide⟩⟩, trivial⟩ rfl (by decide)) (World.grownBy_alloc w' _ none)
  -- op 26 (slot 80): build
  refine MonoR.step (Pv.model [[1]] [(-1)]) [(21, 75), (24, 78), (25, 79)] (by kernel_rfl) (fun w' hw' => ?_) ?_
  · rintro _ rfl
    intro x78 h78
    have h78 : Sl (encS encI) TT w' x78 [[1]] := h78
    obtain ⟨A78, c78, e78, k78, l78⟩ := h78.form
    have e78 : x78 = .slice A78 1 c78 := e78
    subst e78
    intro x79 h79
    have h79 : Sl (encI) TT w' x79 [(-1)] := h79
    obtain ⟨A79, c79, e79, k79, l79⟩ := h79.form
    have e79 : x79 = .slice A79 1 c79 := e79
    subst e79
    refine ask_do rfl fun K hK => ?_
    go_simp
    exact hK _ _ rfl ⟨_, _, rfl, h78, h79⟩ (World.grownBy.refl _ none)
  -- op 27 (slot 81): call
  refine MonoR.step (Pv.eq (.bool true)) [(21, 75), (22, 76), (26, 80)] (by kernel_rfl) (fun w' hw' => ?_) ?_
  · rintro _ rfl
    intro x76 q76
    obtain ⟨a76, b76, e76, h76, k76⟩ : ∃ a b, x76 = .agg #[a, b] ∧ Sl (encS encI) TT w' a [[1]] ∧ Sl encI TT w' b [(-1)] := q76
    subst e76
    intro x80 q80
    obtain ⟨a80, b80, e80, h80, k80⟩ : ∃ a b, x80 = .agg #[a, b] ∧ Sl (encS encI) TT w' a [[1]] ∧ Sl encI TT w' b [(-1)] := q80
    subst e80
    refine ask_do rfl fun K hK => ?_
    go_simp
    refine (models_eq _ _ _ _ [[1]] [(-1)] TT TT TT TT w' h76 k76 h80 k80).mono ?_
    rintro e w3 ⟨rfl, hg⟩
    exact hK _ _ rfl rfl hg
  -- op 28 (slot 82): pick
  refine MonoR.step (Pv.eq (.bool true)) [(21, 75), (27, 81)] (by kernel_rfl) (fun w' hw' => ?_) ?_
  · rintro _ rfl
    rintro _ rfl
    refine ask_do rfl fun K hK => ?_
    go_simp
    exact hK _ _ rfl rfl (World.grownBy.refl _ none)
  -- op 29 (slot 83): move
  refine MonoR.step (Pv.eq (.bool true)) [(28, 82)] (by kernel_rfl) (fun w' hw' => ?_) ?_
  · rintro _ rfl
    refine ask_do rfl fun K hK => ?_
    go_simp
    exact hK _ _ rfl rfl (World.grownBy.refl _ none)
  -- op 30 (slot 84): move
  refine MonoR.step (Pv.eq (.int .i64 20)) [(29, 83)] (by kernel_rfl) (fun w' hw' => ?_) ?_
  · rintro _ rfl
    refine ask_do rfl fun K hK => ?_
    go_simp
    exact hK _ _ rfl rfl (World.grownBy.refl _ none)
  -- op 31 (slot 85): binOp
  refine MonoR.step (Pv.eq (.bool true)) [(29, 83), (30, 84)] (by kernel_rfl) (fun w' hw' => ?_) ?_
  · rintro _ rfl
    rintro _ rfl
    refine ask_do rfl fun K hK => ?_
    go_simp
    exact hK _ _ rfl rfl (World.grownBy.refl _ none)
  -- op 32 (slot 86): pick
  refine MonoR.step (Pv.eq (.bool true)) [(29, 83), (31, 85)] (by kernel_rfl) (fun w' hw' => ?_) ?_
  · rintro _ rfl
    rintro _ rfl
    refine ask_do rfl fun K hK => ?_
    go_simp
    exact hK _ _ rfl rfl (World.grownBy.refl _ none)
  -- op 33 (slot 0): assign
  refine MonoR.step (Pv.eq (.bool true)) [(32, 86)] (by kernel_rfl) (fun w' hw' => ?_) ?_
  · rintro _ rfl
    refine ask_do rfl fun K hK => ?_
    go_simp
    exact hK _ _ rfl rfl (World.grownBy.refl _ none)
  intro w12 hww12
  intro _ _
  intro _ _
  intro _ _
  intro _ _
  intro _ _
  intro _ _
  intro _ _
  intro _ _
  intro _ _
  intro _ _
  intro _ _
  intro _ _
  intro _ _
  intro _ _
  intro _ _
  intro _ _
  intro _ _
  intro _ _
  intro _ _
  intro _ _
  intro _ _
  intro _ _
  intro _ _
  intro _ _
  intro _ _
  intro _ _
  intro _ _
  intro _ _
  intro _ _
  intro _ _
  intro _ _
  intro _ _
  intro _ _
  rintro _ rfl
  simp only [Act.put, List.setIfInBounds_toArray, List.set_cons_zero, List.set_cons_succ]
  have HBd : Hid (Bk w12 w2.heap.size 24 ps.cells) := Lib.hid (Bk.grown HB.out hww12 (by simp))
  have HGd : Hid (w.grownBy w12 none) := Lib.hid ((HG.out).trans hww12)
  have HS3d : Hid (Sl (encP) TT w12 v3 [(5, 2), (7, 5)]) := Lib.hid (Sl.kept HS3.out hww12)
  have HA46d : Hid (Sl (encS encI) TT w12 (.slice A46 n46 c46) [[1]]) := Lib.hid (Sl.kept HA46.out hww12)
  have HBB46d : Hid (Sl encI TT w12 (.slice D46 m46 d46) [(-1)]) := Lib.hid (Sl.kept HBB46.out hww12)
  have HM9d : Hid (Bk w12 w8.heap.size 59 #[.slice A46 n46 c46, .slice D46 m46 d46]) := Lib.hid (Bk.grown HM9.out hww12 (by simp))
  have HA52d : Hid (Sl (encS encI) TT w12 (.slice A52 n52 c52) []) := Lib.hid (Sl.kept HA52.out hww12)
  have HBB52d : Hid (Sl encI TT w12 (.slice D52 m52 d52) []) := Lib.hid (Sl.kept HBB52.out hww12)
  clear HB
  have HB := HBd
  clear HBd
  clear HG
  have HG := HGd
  clear HGd
  clear HS3
  have HS3 := HS3d
  clear HS3d
  clear HA46
  have HA46 := HA46d
  clear HA46d
  clear HBB46
  have HBB46 := HBB46d
  clear HBB46d
  clear HM9
  have HM9 := HM9d
  clear HM9d
  clear HA52
  have HA52 := HA52d
  clear HA52d
  clear HBB52
  have HBB52 := HBB52d
  clear HBB52d
  clear hww12
  refine wpList_nil ?_
  go_wp2
  go_ret
  exact ⟨rfl, HG.out⟩
end Go.Proofs.YtmjdpmfcbeaecaaDoor

namespace Go.Proofs.YtmjdpmfcbeaecaaDoor
open Go Go.RowKit

/-- The pair of member i and secret s, of a list. -/
def pairAt (l : List (Int × Int)) (nn i s : Nat) : Int × Int := if 0 < l.length then l[(i * nn + s) % l.length]?.getD (0, 0) else (((i + s : Nat) : Int), (i : Int))
def thingI (l : List (Int × Int)) (nn i : Nat) : List (Int × Int) := (List.range nn).map (pairAt l nn i)
def comI' (p : Par) (x : Int × Int) (t : Nat) : List Int := (List.range t).map fun j => powI (commitI p x) ((j + 1 : Nat) : Int) p.P
def colI' (p : Par) (l : List (Int × Int)) (nn t i : Nat) : List (List Int) := (List.range nn).map fun s => comI' p (pairAt l nn i s) t
def dealI' (p : Par) (l : List (Int × Int)) (nn t : Nat) (a : List Int) (i : Nat) : Int × List (List Int) := (a[i]?.getD 0, colI' p l nn t i)
theorem info_dealt : (Tryd.prog.info? 41).map (fun i => (i.zero, i.size, i.bytes)) = some (some (.agg #[.int .i64 0, .slice none 0 0]), 2, 32) := by kernel_rfl
theorem el_dealt : ElemOk Tryd.prog 33 41 2 32 := ElemOk.mk' (by decide) Tryd.underlying33 info_dealt rfl
theorem mapr_snoc {α : Type} (f : Nat → α) (n : Nat) : (List.range (n + 1)).map f = (List.range n).map f ++ [f n] := by simp [List.range_succ]
theorem pairAt_U64 {l : List (Int × Int)} {nn i s : Nat} {X : Nat → Prop} {w : World} {v : Value} (h : Sl encP X w v l) (hi : i ≤ 10) (hs : s ≤ 10) : U64 (pairAt l nn i s).1 ∧ U64 (pairAt l nn i s).2 := by
  unfold pairAt
  split
  · rename_i h0
    have hk : (i * nn + s) % l.length < l.length := Nat.mod_lt _ h0
    obtain ⟨_, _, _, _, _, _, _, _, u1, u2⟩ := h.atP hk
    rw [List.getElem?_eq_getElem hk]
    exact ⟨u1, u2⟩
  · exact ⟨⟨by simp; omega, by simp; omega⟩, ⟨by simp, by simp; omega⟩⟩
theorem some_places (k : Nat) (n which : Int) (hn : 1 ≤ n) (hk : (k : Int) ≤ n) : Places n (someI k n which) := by
  refine ⟨someI_in (by omega), ?_⟩
  unfold someI
  rw [Int.toNat_natCast]
  obtain ⟨r, hr⟩ : ∃ r, r = which % 18446744073709551616 % n := ⟨_, rfl⟩
  rw [← hr]
  refine List.pairwise_map.2 (List.Pairwise.imp_of_mem (R := (· < ·)) (fun {a b} ha hb hab => ?_) List.pairwise_lt_range)
  have h1 := List.mem_range.1 ha
  have h2 := List.mem_range.1 hb
  intro e
  have e' : (r + (a : Int)) % n = (r + (b : Int)) % n := by omega
  have hd : n ∣ (r + (b : Int)) - (r + (a : Int)) := Int.dvd_of_emod_eq_zero (by rw [Int.sub_emod, e', Int.sub_self]; rfl)
  obtain ⟨q, hq⟩ := hd
  have h3 : (b : Int) - a = n * q := by omega
  have hq0 : 0 < q := by
    rcases Int.lt_or_le 0 q with h | h
    · exact h
    · have := Int.mul_le_mul_of_nonneg_left h (show (0 : Int) ≤ n by omega)
      omega
  have := Int.mul_le_mul_of_nonneg_left (show (1 : Int) ≤ q by omega) (show (0 : Int) ≤ n by omega)
  omega
theorem drop_rev {α : Type} {xs : List α} {m : Nat} (h : m < xs.length) : (xs.drop m).reverse = (xs.drop (m + 1)).reverse ++ [xs[m]] := by rw [List.drop_eq_getElem_cons h, List.reverse_cons]
theorem take_one {α : Type} {xs : List α} (h : 0 < xs.length) : xs.take 1 = [xs[0]] := by
  cases xs with
  | nil => simp at h
  | cons x xs => simp
theorem rows_mem {p : Par} {a : List Int} {l : List (Int × Int)} {nn kk : Nat} (hm : mayP p = true) (hp : Places p.N a) (hal : a.length = kk) (hk : 1 ≤ kk) (hn : (nn : Int) = secretsI p) : MemOk p a ((List.range kk).map (thingI l nn)) := ⟨hm, hp, by omega, by rw [hal]; simp, fun x hx => by
  obtain ⟨q, _, rfl⟩ := List.mem_map.1 hx
  rw [← hn]
  simp [thingI]⟩
theorem deals_fst {p : Par} {a : List Int} {l : List (Int × Int)} {nn kk t : Nat} (hal : a.length = kk) : ((List.range kk).map (dealI' p l nn t a)).map (·.1) = a := by
  subst hal
  refine List.ext_getElem (by simp) fun i h1 h2 => ?_
  simp [dealI', List.getElem?_eq_getElem h2]
theorem rows_deals {p : Par} {a : List Int} {l : List (Int × Int)} {nn kk t : Nat} (hm : mayP p = true) (hp : Places p.N a) (hal : a.length = kk) (hk : 1 ≤ kk) (hn : (nn : Int) = secretsI p) (ht : (t : Int) = p.T + 1) : Deals p ((List.range kk).map (dealI' p l nn t a)) := ⟨hm, by rw [deals_fst hal]; exact hp, by simp; omega, fun d hd => by
  obtain ⟨q, _, rfl⟩ := List.mem_map.1 hd
  refine ⟨by rw [← hn]; simp [dealI', colI'], fun c hc => ?_⟩
  obtain ⟨s, _, rfl⟩ := List.mem_map.1 (show c ∈ (List.range nn).map fun s => comI' p (pairAt l nn q s) t from hc)
  rw [← ht]
  simp [comI']⟩
theorem rows_bd {p : Par} {a : List Int} {l : List (Int × Int)} {nn t i : Nat} (hm : mayP p = true) : ∀ c ∈ (dealI' p l nn t a i).2, ∀ y ∈ c, 0 ≤ y ∧ y < p.P := by
  obtain ⟨hq, hP, _⟩ := may_apart hm
  have h0 := mayB_pos hP
  intro c hc y hy
  obtain ⟨s, _, rfl⟩ := List.mem_map.1 (show c ∈ (List.range nn).map fun s => comI' p (pairAt l nn i s) t from hc)
  obtain ⟨j, _, rfl⟩ := List.mem_map.1 (show y ∈ (List.range t).map fun j => powI (commitI p (pairAt l nn i s)) ((j + 1 : Nat) : Int) p.P from hy)
  show 0 ≤ powI (commitI p (pairAt l nn i s)) ((j + 1 : Nat) : Int) p.P ∧ powI (commitI p (pairAt l nn i s)) ((j + 1 : Nat) : Int) p.P < p.P
  rw [powI_yes _ _ _ hP]
  exact ⟨Int.emod_nonneg _ (by omega), Int.emod_lt_of_pos _ (by omega)⟩
/-- One dealing alone. -/
theorem deals_one {p : Par} {ds : List (Int × List (List Int))} (h : Deals p ds) (h0 : 0 < ds.length) (hb : ∀ c ∈ ds[0].2, ∀ y ∈ c, 0 ≤ y ∧ y < p.P) : comsE p [ds[0]] = 0 ∧ comsL p [ds[0]] = ds[0].2 := by
  have hm := List.getElem_mem h0
  refine coms_one ds[0].1 ds[0].2 ⟨h.may, ⟨fun y hy => ?_, by simp⟩, by simp, fun d hd => ?_⟩ hb
  · have e : y = ds[0].1 := by simpa using hy
    subst e
    exact h.places.1 _ (List.mem_map.2 ⟨_, hm, rfl⟩)
  · have e : d = ds[0] := by simpa using hd
    subst e
    exact h.cols _ hm
theorem Tri.far {α β γ : Type} {E : Enc α} {F : Enc β} {G : Enc γ} {base : Nat} {e f g : TypeId} {Z : Nat → Prop} {w : World} {v u t : Value} {xs : List α} {ys : List β} {zs : List γ} (h : Tri E F G base e f g Z w v u t xs ys zs) {b : Nat} (hb : b < base) : some b ≠ v.ownBlock ∧ some b ≠ u.ownBlock ∧ some b ≠ t.ownBlock := ⟨fun e => by have := (h.fst.lt b e.symm).1; omega, fun e => by have := (h.snd.lt b e.symm).1; omega, fun e => by have := (h.trd.lt b e.symm).1; omega⟩
set_option maxRecDepth 100000 in
set_option maxHeartbeats 8000000 in
theorem srows_any (p : Par) (v : Value) (l : List (Int × Int)) (which many : Int) (w : World) (hp : p.ok) (h : Sl encP (fun _ => True) w v l) (hw : I64 which) (_hmn : I64 many) (hT : TabsAt w) :
    Calls Tryd.prog 3 #[p.v, v, .int .i64 which, .int .i64 many] w fun e w' => e = .returned (.bool true) ∧ w.grownBy w' none := by
  have HP := Lib.hid hp
  have HL := Lib.hid h
  have HWH := Lib.hid hw
  obtain ⟨A, c, rfl, hl1, hl2⟩ := h.form
  have HB0 : Hid (Bk (w.alloc (Obj.cells p.cells 24)) w.heap.size 24 p.cells) := Lib.hid (Bk.new w _ _)
  have HG0 : Hid (w.grownBy (w.alloc (Obj.cells p.cells 24)) none) := Lib.hid (World.grownBy_alloc w _ none)
  have HM := Lib.hid (fun (w' : World) (hg : w.grownBy w' none) => may_any p w' hp (hT.kept hg))
  clear h hp hw hT
  cases hm : mayP p with
  | false =>
    rw [hm] at HM
    clear hm
    generalize l.length = n at *
    go_enter Tryd.func3, Tryd.ntmps3
    go_wp2_with fail
    refine (works20_any _).mono ?_
    rintro e w1 ⟨rfl, hg⟩
    have HG1 := hidTrans hg HG0
    have hp1 := (bkGrown hg HB0).out.prule
    clear hg
    go_wp2_with fail
    refine (HM.out _ HG1.out).mono ?_
    rintro e w2 ⟨rfl, hg⟩
    have HG2 := hidTrans hg HG1
    clear hg
    go_wp2_with fail
    refine (works20_any _).mono ?_
    rintro e w3 ⟨rfl, hg⟩
    have HG3 := hidTrans hg HG2
    clear hg hp1
    go_wp2
    go_ret
    exact ⟨rfl, HG3.out⟩
  | true =>
    rw [hm] at HM
    by_cases hbig : l.length > 300
    · have hbI : (l.length : Int) > 300 := by omega
      clear hm hbig
      generalize l.length = n at *
      go_enter Tryd.func3, Tryd.ntmps3
      go_wp2_with fail
      refine (works20_any _).mono ?_
      rintro e w1 ⟨rfl, hg⟩
      have HG1 := hidTrans hg HG0
      have hp1 := (bkGrown hg HB0).out.prule
      clear hg
      go_wp2_with fail
      refine (HM.out _ HG1.out).mono ?_
      rintro e w2 ⟨rfl, hg⟩
      have HG2 := hidTrans hg HG1
      clear hg
      go_wp2_with fail
      refine (works20_any _).mono ?_
      rintro e w3 ⟨rfl, hg⟩
      have HG3 := hidTrans hg HG2
      clear hg hp1
      go_wp2
      go_ret
      exact ⟨rfl, HG3.out⟩
    · have hbI : (l.length : Int) ≤ 300 := by omega
      have HSM : Hid (l.length ≤ 300) := Lib.hid (by omega)
      have HMAY := Lib.hid hm
      obtain ⟨hq, hP, ha, n1, n2, n3, t1, t2, t3, hs, k1, d1⟩ := may_apart hm
      obtain ⟨nN, hnN⟩ : ∃ n : Nat, n = p.N.toNat := ⟨_, rfl⟩
      obtain ⟨rm, hrm⟩ : ∃ r, r = (many % 18446744073709551616) % p.N := ⟨_, rfl⟩
      have r1 : 0 ≤ rm := by rw [hrm]; exact Int.emod_nonneg _ (by omega)
      have r2 : rm < p.N := by rw [hrm]; exact Int.emod_lt_of_pos _ (by omega)
      have e1 : IntKind.u64.wrap many = many % 18446744073709551616 := rfl
      have e2 : IntKind.u64.wrap p.N = p.N := IntWalk.u64_in _ (by omega)
      have e3 : Int.tmod (many % 18446744073709551616) p.N = rm := by rw [hrm]; exact Int.tmod_eq_emod_of_nonneg (by omega)
      have e7 : many % 18446744073709551616 % p.N = rm := hrm.symm
      have e4 : IntKind.i64.wrap rm = rm := IntWalk.i64_in _ (by omega)
      have e5 : IntKind.i64.wrap (1 + rm) = 1 + rm := IntWalk.i64_in _ (by omega)
      obtain ⟨kk, hkk⟩ : ∃ k : Nat, (k : Int) = 1 + rm := ⟨(1 + rm).toNat, by omega⟩
      have e6 : 1 + rm = (kk : Int) := hkk.symm
      have hnz : (p.N == 0) = false := by simp; omega
      have hnz2 : ¬ p.N = 0 := by omega
      have e8 : IntKind.i64.wrap (kk : Int) = (kk : Int) := IntWalk.i64_in _ (by omega)
      have HK : Hid (1 ≤ kk ∧ kk ≤ 7 ∧ (kk : Int) ≤ p.N) := Lib.hid (by omega)
      have HEM : Hid (many % 18446744073709551616 % p.N = rm) := Lib.hid hrm.symm
      obtain ⟨a, hadef⟩ : ∃ a, a = someI (kk : Int) p.N which := ⟨_, rfl⟩
      have HSO := Lib.hid (fun w' => some_any kk p.N which w' HK.out.2.1 (by omega) HWH.out)
      rw [← hadef] at HSO
      have HAL : Hid (a.length = kk) := Lib.hid (by rw [hadef]; simp [someI])
      have HAP : Hid (Places p.N a) := Lib.hid (by rw [hadef]; exact some_places kk p.N which (by omega) HK.out.2.2)
      have HAN : Hid (1 ≤ p.N ∧ p.N ≤ 7) := Lib.hid (by omega)
      have hsec := smallB_secrets hs
      obtain ⟨nn, hnn⟩ : ∃ n : Nat, (n : Int) = secretsI p := ⟨(secretsI p).toNat, by omega⟩
      have HNN : Hid ((nn : Int) = secretsI p ∧ nn ≤ 10) := Lib.hid (by omega)
      obtain ⟨t, ht⟩ : ∃ t : Nat, (t : Int) = p.T + 1 := ⟨(p.T + 1).toNat, by omega⟩
      have HTT : Hid ((t : Int) = p.T + 1 ∧ t ≤ 3 ∧ 1 ≤ t) := Lib.hid (by omega)
      have HSEC := Lib.hid (secrets20_any p)
      rw [← hnn] at HSEC
      clear hm hbig hq hP ha n1 n2 n3 t1 t2 t3 hs k1 d1 hnN hkk hadef hsec hnn ht hrm
      obtain ⟨n, hnl⟩ : ∃ n, n = l.length := ⟨_, rfl⟩
      have HNL := Lib.hid hnl
      rw [← hnl] at hbI hl1 ⊢
      clear hnl
      go_enter Tryd.func3, Tryd.ntmps3
      go_wp2_with fail
      refine (works20_any _).mono ?_
      rintro e w1 ⟨rfl, hg⟩
      have HG1 := hidTrans hg HG0
      have hp1 := (bkGrown hg HB0).out.prule
      have HB1 := bkGrown hg HB0
      clear hg
      go_wp2_with fail
      refine (HM.out _ HG1.out).mono ?_
      rintro e w2 ⟨rfl, hg⟩
      have HG2 := hidTrans hg HG1
      have HB2 := bkGrown hg HB1
      clear hg hp1
      go_upto_region 3 with (fail)
      have HB2d : Hid (Bk w2.drew w.heap.size 24 p.cells) := Lib.hid (HB2.out.grown (grown_drewN' w2 1) (by simp))
      have HG2d : Hid (w.grownBy w2.drew none) := Lib.hid (HG2.out.trans (grown_drewN' w2 1))
      refine wp_region_mono 13 (by kernel_rfl) (by kernel_rfl) ?_
      -- op 0 (slot 50): move
      refine MonoR.step (Pv.eq (.int .i64 many)) [] (by kernel_rfl) (fun w' hw' => ?_) ?_
      · refine ask_do rfl fun K hK => ?_
        go_simp
        exact hK _ _ rfl rfl (World.grownBy.refl _ none)
      -- op 1 (slot 51): convert
      refine MonoR.step (Pv.eq (.int .u64 (many % 18446744073709551616))) [(0, 50)] (by kernel_rfl) (fun w' hw' => ?_) ?_
      · rintro _ rfl
        refine ask_do rfl fun K hK => ?_
        go_simp
        exact hK _ _ rfl rfl (World.grownBy.refl _ none)
      -- op 2 (slot 52): fieldAddr
      refine MonoR.step (Pv.eq (.pointer (some ⟨w.heap.size, 5, none⟩))) [] (by kernel_rfl) (fun w' hw' => ?_) ?_
      · refine ask_do rfl fun K hK => ?_
        go_simp
        exact hK _ _ rfl rfl (World.grownBy.refl _ none)
      -- op 3 (slot 53): load
      refine MonoR.step (Pv.eq (.int .i64 p.N)) [(2, 52)] (by kernel_rfl) (fun w' hw' => ?_) ?_
      · rintro _ rfl
        refine ask_do rfl fun K hK => ?_
        have hp := (HB2d.out.grown hw' (by simp)).prule
        go_simp
        exact hK _ _ rfl rfl (World.grownBy.refl _ none)
      -- op 4 (slot 54): convert
      refine MonoR.step (Pv.eq (.int .u64 p.N)) [(3, 53)] (by kernel_rfl) (fun w' hw' => ?_) ?_
      · rintro _ rfl
        refine ask_do rfl fun K hK => ?_
        go_simp
        exact hK _ _ rfl rfl (World.grownBy.refl _ none)
      -- op 5 (slot 55): binOp
      refine MonoR.step (Pv.eq (.int .u64 rm)) [(1, 51), (4, 54)] (by kernel_rfl) (fun w' hw' => ?_) ?_
      · rintro _ rfl
        rintro _ rfl
        refine ask_do rfl fun K hK => ?_
        go_simp
        exact hK _ _ rfl rfl (World.grownBy.refl _ none)
      -- op 6 (slot 56): convert
      refine MonoR.step (Pv.eq (.int .i64 rm)) [(5, 55)] (by kernel_rfl) (fun w' hw' => ?_) ?_
      · rintro _ rfl
        refine ask_do rfl fun K hK => ?_
        go_simp
        exact hK _ _ rfl rfl (World.grownBy.refl _ none)
      -- op 7 (slot 57): binOp
      refine MonoR.step (Pv.eq (.int .i64 (kk : Int))) [(6, 56)] (by kernel_rfl) (fun w' hw' => ?_) ?_
      · rintro _ rfl
        refine ask_do rfl fun K hK => ?_
        go_simp
        exact hK _ _ rfl rfl (World.grownBy.refl _ none)
      -- op 8 (slot 58): fieldAddr
      refine MonoR.step (Pv.eq (.pointer (some ⟨w.heap.size, 5, none⟩))) [] (by kernel_rfl) (fun w' hw' => ?_) ?_
      · refine ask_do rfl fun K hK => ?_
        go_simp
        exact hK _ _ rfl rfl (World.grownBy.refl _ none)
      -- op 9 (slot 59): load
      refine MonoR.step (Pv.eq (.int .i64 p.N)) [(8, 58)] (by kernel_rfl) (fun w' hw' => ?_) ?_
      · rintro _ rfl
        refine ask_do rfl fun K hK => ?_
        have hp := (HB2d.out.grown hw' (by simp)).prule
        go_simp
        exact hK _ _ rfl rfl (World.grownBy.refl _ none)
      -- op 10 (slot 60): move
      refine MonoR.step (Pv.eq (.int .i64 which)) [] (by kernel_rfl) (fun w' hw' => ?_) ?_
      · refine ask_do rfl fun K hK => ?_
        go_simp
        exact hK _ _ rfl rfl (World.grownBy.refl _ none)
      -- op 11 (slot 61): call
      refine MonoR.step (Pv.sl encI TT a) [(7, 57), (9, 59), (10, 60)] (by kernel_rfl) (fun w' hw' => ?_) ?_
      · rintro _ rfl
        rintro _ rfl
        rintro _ rfl
        refine ask_do rfl fun K hK => ?_
        go_simp
        refine (HSO.out w').mono ?_
        rintro e w3 ⟨v3, rfl, h3, hg⟩
        exact hK _ _ rfl (h3.more (fun _ _ _ => trivial)) hg
      -- op 12 (slot 9): assign
      refine MonoR.step (Pv.sl encI TT a) [(11, 61)] (by kernel_rfl) (fun w' hw' => ?_) ?_
      · intro x61 h61
        have h61 : Sl encI TT w' x61 a := h61
        refine ask_do rfl fun K hK => ?_
        go_simp
        exact hK _ _ rfl h61 (World.grownBy.refl _ none)
      
      intro w3 hw3
      intro y0 z0 y1 z1 y2 z2 y3 z3 y4 z4 y5 z5 y6 z6 y7 z7 y8 z8 y9 z9 y10 z10 y11 z11 v9 h9
      simp only [Act.put, List.setIfInBounds_toArray, List.set_cons_zero, List.set_cons_succ]
      have HG3 : Hid (w.grownBy w3 none) := Lib.hid (HG2d.out.trans hw3)
      have HB3 : Hid (Bk w3 w.heap.size 24 p.cells) := Lib.hid (HB2d.out.grown hw3 (by simp))
      have HA3 : Hid (Sl encI TT w3 v9 a) := Lib.hid h9
      obtain ⟨A9, c9, e9, k9, l9⟩ := HA3.out.form
      rw [HAL.out] at e9 k9
      subst e9
      clear z0 z1 z2 z3 z4 z5 z6 z7 z8 z9 z10 z11 hw3 h9 HB0 HG0 HB1 HG1 HB2 HG2 HB2d HG2d e1 e2 e3 e4 e5 e6 e7 e8 hnz hnz2 HSO HM
      refine wpList_nil ?_
      have hp3 := HB3.out.prule
      go_wp2_with fail
      refine (HSEC.out _).mono ?_
      rintro e w4 ⟨rfl, hg⟩
      have HG4 := hidTrans hg HG3
      have HB4 := bkGrown hg HB3
      have HA4 := Lib.hid (HA3.out.kept hg)
      clear hg hp3 HG3 HB3 HA3
      go_wp2_with fail
      have hk7 : kk ≤ 7 := HK.out.2.1
      have hn10 : nn ≤ 10 := HNN.out.2
      have ht3 : t ≤ 3 := HTT.out.2.1
      go_loopg [11, 13, 16] kk (fun g s11 s13 s16 wx => ∃ i : Nat, i + g = kk ∧ s16 = .int .i64 i ∧ Hid (Side (encS encP) encD w4.heap.size 25 41 TT wx s11 s13 ((List.range i).map (thingI l nn)) ((List.range i).map (dealI' p l nn t a)) ∧ w4.grownBy wx none))
      case atStart => exact ⟨0, by omega, rfl, Lib.hid ⟨⟨Acc.nil _ _ _ _ _, Acc.nil _ _ _ _ _⟩, World.grownBy.refl _ none⟩⟩
      case round =>
        obtain ⟨i, hi, rfl, HX⟩ := hrel
        cases gk with
        | zero =>
          obtain rfl : kk = i := by omega
          obtain ⟨wq, hwq⟩ : ∃ y, y = wr := ⟨_, rfl⟩
          subst hwq
          have HGq := Lib.hid HX.out.2
          have HBq := Lib.hid (HB4.out.grown HGq.out (by simp))
          have HAq := Lib.hid (HA4.out.kept HGq.out)
          have HGw : Hid (w.grownBy wq none) := Lib.hid (HG4.out.trans HGq.out)
          have HMO : Hid (MemOk p a ((List.range kk).map (thingI l nn))) := Lib.hid (rows_mem HMAY.out HAP.out HAL.out HK.out.1 HNN.out.1)
          have HDO : Hid (Deals p ((List.range kk).map (dealI' p l nn t a))) := Lib.hid (rows_deals HMAY.out HAP.out HAL.out HK.out.1 HNN.out.1 HTT.out.1)
          have HTq : Hid (Sl (encS encP) TT wq u11 ((List.range kk).map (thingI l nn))) := Lib.hid (HX.out.1.fst.sl.more fun _ _ _ => trivial)
          have HDq : Hid (Sl encD TT wq u13 ((List.range kk).map (dealI' p l nn t a))) := Lib.hid (HX.out.1.snd.sl.more fun _ _ _ => trivial)
          have HLN : Hid (((List.range kk).map (thingI l nn)).length = kk ∧ ((List.range kk).map (dealI' p l nn t a)).length = kk) := Lib.hid (by simp)
          have HDB : Hid (∀ h : 0 < ((List.range kk).map (dealI' p l nn t a)).length, ∀ c ∈ (((List.range kk).map (dealI' p l nn t a))[0]).2, ∀ y ∈ c, 0 ≤ y ∧ y < p.P) := Lib.hid (fun h => by rw [List.getElem_map, List.getElem_range]; exact rows_bd HMAY.out)
          clear HX
          obtain ⟨TH, hTH⟩ : ∃ y, y = (List.range kk).map (thingI l nn) := ⟨_, rfl⟩
          obtain ⟨DE, hDE⟩ : ∃ y, y = (List.range kk).map (dealI' p l nn t a) := ⟨_, rfl⟩
          rw [← hTH] at HMO HTq HLN
          rw [← hDE] at HDO HDq HLN HDB
          clear hTH hDE HL HG4 HB4 HA4
          have hk1 : 0 < kk := HK.out.1
          have hT0 : 0 < TH.length := by rw [HLN.out.1]; exact hk1
          have hD0 : 0 < DE.length := by rw [HLN.out.2]; exact hk1
          have ha0 : 0 < a.length := by rw [HAL.out]; exact hk1
          obtain ⟨ga, oa, ca, ea, _, _, hca0, hia0⟩ := HAq.out.atI ha0
          obtain ⟨gT, oT, cT, vT0, eT, _, _, hcT0, hsT0⟩ := HTq.out.atS hT0
          obtain ⟨gD, oD, cD, vD0, eD, _, _, hcD0, hcD1, hiD0, hsD0⟩ := HDq.out.atD hD0
          rw [HAL.out] at ea
          rw [HLN.out.1] at eT
          rw [HLN.out.2] at eD
          injection ea with e1 e2 e3
          subst e1 e3 eT eD
          have HCA := Lib.hid hca0
          have HCT := Lib.hid hcT0
          have HST := Lib.hid hsT0
          have HCD := Lib.hid hcD1
          have HSD := Lib.hid hsD0
          have hc9 := l9
          clear e2 hca0 hia0 hcT0 hsT0 hcD0 hcD1 hiD0 hsD0
          have hkI : (kk : Int) ≤ 7 := by omega
          have w23 : IntKind.i64.wrap ((kk : Int) - 1) = (kk : Int) - 1 := IntWalk.i64_in _ (by omega)
          have hp8 := HBq.out.prule
          go_wp2_with fail
          go_loopg [12, 14, 15, 23] kk (fun g s12 s14 s15 s23 wx => s23 = .int .i64 ((g : Int) - 1) ∧ g ≤ kk ∧ Hid (Tri (encS encP) encD encI wq.heap.size 25 41 3 TT wx s12 s14 s15 (TH.drop g).reverse (DE.drop g).reverse (a.drop g).reverse ∧ wq.grownBy wx none))
          case atStart => exact ⟨rfl, Nat.le_refl _, Lib.hid ⟨by rw [List.drop_eq_nil_of_le (by rw [HLN.out.1]; exact Nat.le_refl _), List.drop_eq_nil_of_le (by rw [HLN.out.2]; exact Nat.le_refl _), List.drop_eq_nil_of_le (by rw [HAL.out]; exact Nat.le_refl _)]; exact Tri.nil _ _ _ _ _ _ _ _ _, World.grownBy.refl _ none⟩⟩
          case round =>
            obtain ⟨e23, hgk, HY⟩ := hrel
            cases gk with
            | zero =>
              have e23 : u23 = .int .i64 (-1) := e23
              subst e23
              have HGr := Lib.hid HY.out.2
              have HT12 : Hid (Sl (encS encP) TT wr u12 TH.reverse) := Lib.hid (HY.out.1.fst.sl.more fun _ _ _ => trivial)
              have HD14 : Hid (Sl encD TT wr u14 DE.reverse) := Lib.hid (HY.out.1.snd.sl.more fun _ _ _ => trivial)
              have HA15 : Hid (Sl encI TT wr u15 a.reverse) := Lib.hid (HY.out.1.trd.sl.more fun _ _ _ => trivial)
              clear HY
              have HDL : Hid (∀ d ∈ DE, d.2.length ≤ 100000) := Lib.hid (fun d hd => by have := (HDO.out.cols d hd).1; have := HNN.out; omega)
              have HS1 := Lib.hid (fun (w' : World) (hg : wq.grownBy w' none) => sum_any p _ a _ TH _ _ w' HP.out (HAq.out.kept hg) (HTq.out.kept hg) (by rw [HAL.out]; omega) (by rw [HLN.out.1]; omega))
              have HS2 := Lib.hid (fun (w' : World) (hg : wr.grownBy w' none) => sum_any p _ a.reverse _ TH.reverse _ _ w' HP.out (HA15.out.kept hg) (HT12.out.kept hg) (by rw [List.length_reverse, HAL.out]; omega) (by rw [List.length_reverse, HLN.out.1]; omega))
              have HC1 := Lib.hid (fun (w' : World) (hg : wq.grownBy w' none) => scoms_any p _ DE _ w' HP.out (HDq.out.kept hg) (by rw [HLN.out.2]; omega) HDL.out)
              have HC2 := Lib.hid (fun (w' : World) (hg : wr.grownBy w' none) => scoms_any p _ DE.reverse _ w' HP.out (HD14.out.kept hg) (by rw [List.length_reverse, HLN.out.2]; omega) (fun d hd => HDL.out d (List.mem_reverse.1 hd)))
              have F1 := sum_good HMO.out
              obtain ⟨F2, F3⟩ := sum_reverse HMO.out
              have F4 := coms_good HDO.out
              obtain ⟨F5, F6⟩ := coms_reverse HDO.out
              simp only [F1] at HS1
              simp only [F2, F3] at HS2
              simp only [F4] at HC1
              simp only [F5, F6] at HC2
              have T1 : Sl encI TT wq (.slice (some ⟨ga, oa, none⟩) 1 c9) [a[0]] := by have h := HAq.out.take 1 ha0; rwa [take_one ha0] at h
              have T2 : Sl (encS encP) TT wq (.slice (some ⟨gT, oT, none⟩) 1 cT) [TH[0]] := by have h := HTq.out.take 1 hT0; rwa [take_one hT0] at h
              have T3 : Sl encD TT wq (.slice (some ⟨gD, oD, none⟩) 1 cD) [DE[0]] := by have h := HDq.out.take 1 hD0; rwa [take_one hD0] at h
              have ln0 : (TH[0].length : Int) = secretsI p := HMO.out.rows _ (List.getElem_mem hT0)
              obtain ⟨F7, F8⟩ := sum_one HMAY.out a[0] (HAP.out.1 _ (List.getElem_mem ha0)) TH[0] ln0
              obtain ⟨F9, F10⟩ := deals_one HDO.out hD0 (HDB.out hD0)
              have HO1 := Lib.hid (fun (w' : World) (hg : wq.grownBy w' none) => sum_any p _ [a[0]] _ [TH[0]] _ _ w' HP.out (T1.kept hg) (T2.kept hg) (by simp) (by simp))
              have HO2 := Lib.hid (fun (w' : World) (hg : wq.grownBy w' none) => scoms_any p _ [DE[0]] _ w' HP.out (T3.kept hg) (by simp) (fun d hd => HDL.out d (by rw [List.mem_singleton.1 hd]; exact List.getElem_mem hD0)))
              rw [F7, F8] at HO1
              rw [F9, F10] at HO2
              have ln1 : TH[0].length = nn := by have := HNN.out.1; omega
              have HLN0 : Hid (TH[0].length = nn) := Lib.hid ln1
              obtain ⟨SL, hSL⟩ : ∃ y, y = sumL p a TH := ⟨_, rfl⟩
              obtain ⟨CL, hCL⟩ : ∃ y, y = comsL p DE := ⟨_, rfl⟩
              rw [← hSL] at HS1 HS2
              rw [← hCL] at HC1 HC2
              have hs9 : kk ≤ c9 := k9
              obtain ⟨_, _, eT', _, lT'⟩ := HTq.out.form
              obtain ⟨_, _, eD', _, lD'⟩ := HDq.out.form
              have hsT : 1 ≤ cT := by obtain ⟨A', c', e', k', _⟩ := T2.form; injection e' with _ _ e3; subst e3; exact k'
              have hsD : 1 ≤ cD := by obtain ⟨A', c', e', k', _⟩ := T3.form; injection e' with _ _ e3; subst e3; exact k'
              have hs1 : (1 : Int) ≤ (c9 : Int) := by omega
              have hs2 : (1 : Int) ≤ (cT : Int) := by omega
              have hs3 : (1 : Int) ≤ (cD : Int) := by omega
              obtain ⟨A0, n0, c0, q0⟩ := HST.out.shape
              subst q0
              obtain ⟨A1, n1, c1, q1⟩ := HSD.out.shape
              subst q1
              clear F1 F2 F3 F4 F5 F6 F7 F8 F9 F10 T1 T2 T3 ln0 ln1 hSL hCL eT' lT' eD' lD' HDB
              generalize TH[0] = th0 at *
              generalize DE[0] = de0 at *
              generalize a[0] = a0 at *
              have hp9 := (HBq.out.grown HGr.out (by simp)).prule
              clear hp8
              go_wp2_with fail
              refine (HS1.out _ HGr.out).mono ?_
              rintro e w5 ⟨v24, rfl, h24, hg⟩
              have HG5 := Lib.hid (HGr.out.trans hg)
              have HR5 := Lib.hid hg
              have HV24 := Lib.hid h24
              have hp10 := (HBq.out.grown HG5.out (by simp)).prule
              clear hg h24 hp9
              go_wp2_with fail
              refine (HS2.out _ HR5.out).mono ?_
              rintro e w6 ⟨v26, rfl, h26, hg⟩
              have HG6 := Lib.hid (HG5.out.trans hg)
              have HR6 := Lib.hid (HR5.out.trans hg)
              have HK6 := Lib.hid hg
              have HV26 := Lib.hid h26
              have hp11 := (HBq.out.grown HG6.out (by simp)).prule
              clear hg h26 hp10
              go_wp2_with fail
              refine (HC1.out _ HG6.out).mono ?_
              rintro e w7 ⟨v28, rfl, h28, hg⟩
              have HG7 := Lib.hid (HG6.out.trans hg)
              have HR7 := Lib.hid (HR6.out.trans hg)
              have HK7 := Lib.hid hg
              have HV28 := Lib.hid h28
              have hp12 := (HBq.out.grown HG7.out (by simp)).prule
              clear hg h28 hp11
              go_wp2_with fail
              refine (HC2.out _ HR7.out).mono ?_
              rintro e w8 ⟨v30, rfl, h30, hg⟩
              have HG8 := Lib.hid (HG7.out.trans hg)
              have HK8 := Lib.hid hg
              have HV30 := Lib.hid h30
              clear hg h30 hp12
              go_wp2_with fail
              refine (same_eq v24 v26 SL _ _ _ (HV24.out.kept (HK6.out.trans (HK7.out.trans HK8.out))) (HV26.out.kept (HK7.out.trans HK8.out))).mono ?_
              rintro e w9 ⟨rfl, n9, hw9⟩
              have HK9 : Hid (w8.grownBy w9 none) := Lib.hid (by rw [hw9]; exact grownBy_drewN (World.grownBy.refl w8 none) n9)
              clear hw9
              go_wp2_with fail
              refine (lists_eq v28 v30 CL _ _ _ (HV28.out.kept (HK8.out.trans HK9.out)) (HV30.out.kept HK9.out)).mono ?_
              rintro e w10 ⟨rfl, n10, hw10⟩
              have HG10 : Hid (wq.grownBy w10 none) := Lib.hid (HG8.out.trans (HK9.out.trans (by rw [hw10]; exact grownBy_drewN (World.grownBy.refl w9 none) n10)))
              clear hw10
              go_upto_region 40 with (fail)
              have HGd : Hid (wq.grownBy w10.drew none) := Lib.hid (HG10.out.trans (grown_drewN' w10 1))
              refine wp_region_mono 11 (by kernel_rfl) (by kernel_rfl) ?_
              -- op 0 (slot 215): load
              refine MonoR.step (Pv.eq (p.v)) [] (by kernel_rfl) (fun w' hw' => ?_) ?_
              · refine ask_do rfl fun K hK => ?_
                have hp := (HBq.out.grown (HGd.out.trans hw') (by simp)).prule
                go_simp
                exact hK _ _ rfl rfl (World.grownBy.refl _ none)
              -- op 1 (slot 216): move
              refine MonoR.step (Pv.eq (.slice (some ⟨ga, oa, none⟩) kk c9)) [] (by kernel_rfl) (fun w' hw' => ?_) ?_
              · refine ask_do rfl fun K hK => ?_
                go_simp
                exact hK _ _ rfl rfl (World.grownBy.refl _ none)
              -- op 2 (slot 217): slice
              refine MonoR.step (Pv.eq (.slice (some ⟨ga, oa, none⟩) 1 c9)) [(1, 216)] (by kernel_rfl) (fun w' hw' => ?_) ?_
              · rintro _ rfl
                refine ask_do rfl fun K hK => ?_
                go_simp
                exact hK _ _ rfl rfl (World.grownBy.refl _ none)
              -- op 3 (slot 218): move
              refine MonoR.step (Pv.eq (.slice (some ⟨gT, oT, none⟩) kk cT)) [] (by kernel_rfl) (fun w' hw' => ?_) ?_
              · refine ask_do rfl fun K hK => ?_
                go_simp
                exact hK _ _ rfl rfl (World.grownBy.refl _ none)
              -- op 4 (slot 219): slice
              refine MonoR.step (Pv.eq (.slice (some ⟨gT, oT, none⟩) 1 cT)) [(3, 218)] (by kernel_rfl) (fun w' hw' => ?_) ?_
              · rintro _ rfl
                refine ask_do rfl fun K hK => ?_
                go_simp
                exact hK _ _ rfl rfl (World.grownBy.refl _ none)
              -- op 5 (slot 220): call
              refine MonoR.step (Pv.tup encP (th0.map fun y : Int × Int => (y.1 % p.Q, y.2 % p.Q)) 0) [(0, 215), (2, 217), (4, 219)] (by kernel_rfl) (fun w' hw' => ?_) ?_
              · rintro _ rfl
                rintro _ rfl
                rintro _ rfl
                refine ask_do rfl fun K hK => ?_
                go_simp
                refine (HO1.out w' (HGd.out.trans hw')).mono ?_
                rintro e w3 ⟨v3, rfl, h3, hg⟩
                exact hK _ _ rfl ⟨_, rfl, h3.more (fun _ _ _ => trivial)⟩ hg
              -- op 6 (slot 214): move
              refine MonoR.step (Pv.tup encP (th0.map fun y : Int × Int => (y.1 % p.Q, y.2 % p.Q)) 0) [(5, 220)] (by kernel_rfl) (fun w' hw' => ?_) ?_
              · intro x220 h220
                have h220 : ∃ u, x220 = .tuple #[u, .int .i64 0] ∧ Sl encP TT w' u (th0.map fun y : Int × Int => (y.1 % p.Q, y.2 % p.Q)) := h220
                obtain ⟨u220, e220, r220⟩ := h220
                subst e220
                refine ask_do rfl fun K hK => ?_
                go_simp
                exact hK _ _ rfl ⟨_, rfl, r220⟩ (World.grownBy.refl _ none)
              -- op 7 (slot 221): extract
              refine MonoR.step (Pv.sl encP TT (th0.map fun y : Int × Int => (y.1 % p.Q, y.2 % p.Q))) [(6, 214)] (by kernel_rfl) (fun w' hw' => ?_) ?_
              · intro x214 h214
                have h214 : ∃ u, x214 = .tuple #[u, .int .i64 0] ∧ Sl encP TT w' u (th0.map fun y : Int × Int => (y.1 % p.Q, y.2 % p.Q)) := h214
                obtain ⟨u214, e214, r214⟩ := h214
                subst e214
                refine ask_do rfl fun K hK => ?_
                go_simp
                exact hK _ _ rfl r214 (World.grownBy.refl _ none)
              -- op 8 (slot 222): extract
              refine MonoR.step (Pv.eq (.int .i64 0)) [(6, 214)] (by kernel_rfl) (fun w' hw' => ?_) ?_
              · intro x214 h214
                have h214 : ∃ u, x214 = .tuple #[u, .int .i64 0] ∧ Sl encP TT w' u (th0.map fun y : Int × Int => (y.1 % p.Q, y.2 % p.Q)) := h214
                obtain ⟨u214, e214, r214⟩ := h214
                subst e214
                refine ask_do rfl fun K hK => ?_
                go_simp
                exact hK _ _ rfl rfl (World.grownBy.refl _ none)
              -- op 9 (slot 32): assign
              refine MonoR.step (Pv.sl encP TT (th0.map fun y : Int × Int => (y.1 % p.Q, y.2 % p.Q))) [(7, 221)] (by kernel_rfl) (fun w' hw' => ?_) ?_
              · intro x221 h221
                have h221 : Sl encP TT w' x221 (th0.map fun y : Int × Int => (y.1 % p.Q, y.2 % p.Q)) := h221
                refine ask_do rfl fun K hK => ?_
                go_simp
                exact hK _ _ rfl h221 (World.grownBy.refl _ none)
              -- op 10 (slot 33): assign
              refine MonoR.step (Pv.eq (.int .i64 0)) [(8, 222)] (by kernel_rfl) (fun w' hw' => ?_) ?_
              · rintro _ rfl
                refine ask_do rfl fun K hK => ?_
                go_simp
                exact hK _ _ rfl rfl (World.grownBy.refl _ none)
              
              intro w11 hw11
              intro y0 z0 y1 z1 y2 z2 y3 z3 y4 z4 y5 q5 y6 q6 y7 q7 y8 z8 v32 h32 y10 z10
              simp only [Act.put, List.setIfInBounds_toArray, List.set_cons_zero, List.set_cons_succ]
              have e10 : y10 = .int .i64 0 := z10
              subst e10
              have HG11 : Hid (wq.grownBy w11 none) := Lib.hid (HGd.out.trans hw11)
              have HV32 : Hid (Sl encP TT w11 v32 (th0.map fun y : Int × Int => (y.1 % p.Q, y.2 % p.Q))) := Lib.hid h32
              clear z0 z1 z2 z3 z4 q5 q6 q7 z8 z10 hw11 h32
              refine wpList_nil ?_
              go_upto_region 41 with (fail)
              have HGe : Hid (wq.grownBy w11.drew none) := Lib.hid (HG11.out.trans (grown_drewN' w11 1))
              refine wp_region_mono 9 (by kernel_rfl) (by kernel_rfl) ?_
              -- op 0 (slot 224): load
              refine MonoR.step (Pv.eq (p.v)) [] (by kernel_rfl) (fun w' hw' => ?_) ?_
              · refine ask_do rfl fun K hK => ?_
                have hp := (HBq.out.grown (HGe.out.trans hw') (by simp)).prule
                go_simp
                exact hK _ _ rfl rfl (World.grownBy.refl _ none)
              -- op 1 (slot 225): move
              refine MonoR.step (Pv.eq (.slice (some ⟨gD, oD, none⟩) kk cD)) [] (by kernel_rfl) (fun w' hw' => ?_) ?_
              · refine ask_do rfl fun K hK => ?_
                go_simp
                exact hK _ _ rfl rfl (World.grownBy.refl _ none)
              -- op 2 (slot 226): slice
              refine MonoR.step (Pv.eq (.slice (some ⟨gD, oD, none⟩) 1 cD)) [(1, 225)] (by kernel_rfl) (fun w' hw' => ?_) ?_
              · rintro _ rfl
                refine ask_do rfl fun K hK => ?_
                go_simp
                exact hK _ _ rfl rfl (World.grownBy.refl _ none)
              -- op 3 (slot 227): call
              refine MonoR.step (Pv.tup (encS encU) de0.2 0) [(0, 224), (2, 226)] (by kernel_rfl) (fun w' hw' => ?_) ?_
              · rintro _ rfl
                rintro _ rfl
                refine ask_do rfl fun K hK => ?_
                go_simp
                refine (HO2.out w' (HGe.out.trans hw')).mono ?_
                rintro e w3 ⟨v3, rfl, h3, hg⟩
                exact hK _ _ rfl ⟨_, rfl, h3.more (fun _ _ _ => trivial)⟩ hg
              -- op 4 (slot 223): move
              refine MonoR.step (Pv.tup (encS encU) de0.2 0) [(3, 227)] (by kernel_rfl) (fun w' hw' => ?_) ?_
              · intro x227 h227
                have h227 : ∃ u, x227 = .tuple #[u, .int .i64 0] ∧ Sl (encS encU) TT w' u de0.2 := h227
                obtain ⟨u227, e227, r227⟩ := h227
                subst e227
                refine ask_do rfl fun K hK => ?_
                go_simp
                exact hK _ _ rfl ⟨_, rfl, r227⟩ (World.grownBy.refl _ none)
              -- op 5 (slot 228): extract
              refine MonoR.step (Pv.sl (encS encU) TT de0.2) [(4, 223)] (by kernel_rfl) (fun w' hw' => ?_) ?_
              · intro x223 h223
                have h223 : ∃ u, x223 = .tuple #[u, .int .i64 0] ∧ Sl (encS encU) TT w' u de0.2 := h223
                obtain ⟨u223, e223, r223⟩ := h223
                subst e223
                refine ask_do rfl fun K hK => ?_
                go_simp
                exact hK _ _ rfl r223 (World.grownBy.refl _ none)
              -- op 6 (slot 229): extract
              refine MonoR.step (Pv.eq (.int .i64 0)) [(4, 223)] (by kernel_rfl) (fun w' hw' => ?_) ?_
              · intro x223 h223
                have h223 : ∃ u, x223 = .tuple #[u, .int .i64 0] ∧ Sl (encS encU) TT w' u de0.2 := h223
                obtain ⟨u223, e223, r223⟩ := h223
                subst e223
                refine ask_do rfl fun K hK => ?_
                go_simp
                exact hK _ _ rfl rfl (World.grownBy.refl _ none)
              -- op 7 (slot 34): assign
              refine MonoR.step (Pv.sl (encS encU) TT de0.2) [(5, 228)] (by kernel_rfl) (fun w' hw' => ?_) ?_
              · intro x228 h228
                have h228 : Sl (encS encU) TT w' x228 de0.2 := h228
                refine ask_do rfl fun K hK => ?_
                go_simp
                exact hK _ _ rfl h228 (World.grownBy.refl _ none)
              -- op 8 (slot 35): assign
              refine MonoR.step (Pv.eq (.int .i64 0)) [(6, 229)] (by kernel_rfl) (fun w' hw' => ?_) ?_
              · rintro _ rfl
                refine ask_do rfl fun K hK => ?_
                go_simp
                exact hK _ _ rfl rfl (World.grownBy.refl _ none)
              
              intro w12 hw12
              intro y0 z0 y1 z1 y2 z2 y3 q3 y4 q4 y5 q5 y6 q6 v34 h34 y8 z8
              simp only [Act.put, List.setIfInBounds_toArray, List.set_cons_zero, List.set_cons_succ]
              have e8 : y8 = .int .i64 0 := z8
              subst e8
              have HG12 : Hid (wq.grownBy w12 none) := Lib.hid (HGe.out.trans hw12)
              have HV32b := Lib.hid (HV32.out.kept ((grown_drewN' w11 1).trans hw12))
              have HV34 : Hid (Sl (encS encU) TT w12 v34 de0.2) := Lib.hid h34
              have hcd := cellK HCD.out HG12.out (by simp)
              clear z0 z1 z2 q3 q4 q5 q6 z8 hw12 h34
              refine wpList_nil ?_
              go_wp2_with fail
              refine (lists_eq v34 _ de0.2 _ _ _ HV34.out (HSD.out.kept HG12.out)).mono ?_
              rintro e w13 ⟨rfl, n13, hw13⟩
              have HK13 : Hid (w12.grownBy w13 none) := Lib.hid (by rw [hw13]; exact grownBy_drewN (World.grownBy.refl w12 none) n13)
              clear hw13 hcd
              have HG13 : Hid (wq.grownBy w13 none) := Lib.hid (HG12.out.trans HK13.out)
              have HBz : Hid (Bk w13 w.heap.size 24 p.cells) := Lib.hid (HBq.out.grown HG13.out (by simp))
              have hct := cellK HCT.out HG13.out (by simp)
              simp only [Nat.add_zero] at hct
              have HT13 := Lib.hid (HST.out.kept HG13.out)
              have HV13 := Lib.hid (HV32b.out.kept HK13.out)
              have HGZ : Hid (w.grownBy w13 none) := Lib.hid (HGw.out.trans HG13.out)
              have HQ1 : Hid (1 ≤ p.Q) := Lib.hid (by obtain ⟨hq, _⟩ := may_apart HMAY.out; have := mayB_pos hq; omega)
              have HLX : Hid ((th0.map fun y => (y.1 % p.Q, y.2 % p.Q)).length = nn) := Lib.hid (by rw [List.length_map, HLN0.out])
              obtain ⟨XS, hXS⟩ : ∃ y, y = th0.map fun y => (y.1 % p.Q, y.2 % p.Q) := ⟨_, rfl⟩
              have HXE : Hid (∀ s (h : s < XS.length) (h' : s < th0.length), XS[s].1 = th0[s].1 % p.Q ∧ XS[s].2 = th0[s].2 % p.Q) := Lib.hid (fun s h h' => by subst hXS; simp)
              rw [← hXS] at HV13 HLX
              clear hXS
              obtain ⟨Ax, nx, cx, qx⟩ := HV13.out.shape
              subst qx
              go_wp2_with fail
              go_loopg [36] nn (fun g s36 wx => ∃ s : Nat, s + g = nn ∧ s36 = .int .i64 s ∧ Hid (∃ k, wx = w13.drewN k))
              case atStart => exact ⟨0, by omega, rfl, Lib.hid ⟨0, rfl⟩⟩
              case round =>
                obtain ⟨s, hs, rfl, HW⟩ := hrel
                obtain ⟨nw, rfl⟩ := HW.out
                cases gk with
                | zero =>
                  obtain rfl : nn = s := by omega
                  clear HW
                  go_wp2
                  go_ret
                  exact ⟨rfl, grownBy_drewN HGZ.out nw⟩
                | succ m =>
                  have hsn : (s : Int) < (nn : Int) := by omega
                  have hsN : s < nn := by omega
                  have h1 : s < XS.length := by rw [HLX.out]; exact hsN
                  have h2 : s < th0.length := by rw [HLN0.out]; exact hsN
                  obtain ⟨g1, o1, c1', e1, _, _, a1, a2, u3, u4⟩ := HV13.out.atP h1
                  obtain ⟨g2, o2, c2', e2, _, _, b1, b2, u1, u2⟩ := HT13.out.atP h2
                  rw [HLX.out] at e1
                  rw [HLN0.out] at e2
                  injection e1 with e1 e3 e4
                  subst e1 e3 e4
                  injection e2 with e2 e5 e6
                  subst e2 e5 e6
                  obtain ⟨x1, x2⟩ := HXE.out s h1 h2
                  rw [x1] at a1
                  rw [x2] at a2
                  have hp := HBz.out.prule
                  have hq := HQ1.out
                  have hq0 : ¬ p.Q = 0 := by omega
                  have hqb : (p.Q == 0) = false := by simp; omega
                  have d1 : Int.tmod th0[s].1 p.Q = th0[s].1 % p.Q := Int.tmod_eq_emod_of_nonneg u1.1
                  have d2 : Int.tmod th0[s].2 p.Q = th0[s].2 % p.Q := Int.tmod_eq_emod_of_nonneg u2.1
                  have b3 : 0 ≤ th0[s].1 % p.Q := Int.emod_nonneg _ (by omega)
                  have b4 : 0 ≤ th0[s].2 % p.Q := Int.emod_nonneg _ (by omega)
                  have b5 : th0[s].1 % p.Q ≤ 18446744073709551615 := by have := HP.out.Q; have := this.2; have := Int.emod_lt_of_pos th0[s].1 (show 0 < p.Q by omega); omega
                  clear x1 x2 u3 u4
                  generalize th0[s].1 = y1 at *
                  generalize th0[s].2 = y2 at *
                  clear h1 h2 u1 u2 HW
                  go_wp2_with fail
                  go_quiet (fail)
                  go_wp2_with fail
                  go_roundg m
                  case measure => omega
                  case rel => exact ⟨s + 1, by omega, by go_num, Lib.hid ⟨_, rfl⟩⟩
            | succ m =>
              have e23 : u23 = .int .i64 (m : Int) := by rw [e23]; congr 1; omega
              subst e23
              have hge : (0 : Int) ≤ (m : Int) := by omega
              have hmk : (m : Int) < (kk : Int) := by omega
              have hm1 : m < a.length := by rw [HAL.out]; omega
              have hm2 : m < TH.length := by rw [HLN.out.1]; omega
              have hm3 : m < DE.length := by rw [HLN.out.2]; omega
              have HT0 := Lib.hid HY.out.1
              have HGx := Lib.hid HY.out.2
              obtain ⟨g1, o1, c1, e1, _, _, hc1, hi1⟩ := HAq.out.atI hm1
              obtain ⟨g2, o2, c2, v2, e2, _, _, hc2, hs2⟩ := HTq.out.atS hm2
              obtain ⟨g3, o3, c3, v3, e3, _, _, hc3, hc4, hi3, hs3⟩ := HDq.out.atD hm3
              injection e1 with e1 e4 e5
              injection e1 with e1
              injection e1 with e1 e6
              injection e2 with e2 e7 e8
              injection e2 with e2
              injection e2 with e2 e9
              injection e3 with e3 e10 e11
              injection e3 with e3
              injection e3 with e3 e12
              subst e1 e6 e2 e9 e3 e12
              clear e4 e5 e7 e8 e10 e11
              have HS1 : Hid ((a.drop m).reverse = (a.drop (m + 1)).reverse ++ [a[m]]) := Lib.hid (drop_rev hm1)
              have HS2 : Hid ((TH.drop m).reverse = (TH.drop (m + 1)).reverse ++ [TH[m]]) := Lib.hid (drop_rev hm2)
              have HS3 : Hid ((DE.drop m).reverse = (DE.drop (m + 1)).reverse ++ [DE[m]]) := Lib.hid (drop_rev hm3)
              have HL1 : Hid ((((a.drop (m + 1)).reverse).length + 1) * 8 ≤ 140737488355328) := Lib.hid (by have := HAL.out; simp; omega)
              have HL2 : Hid ((((TH.drop (m + 1)).reverse).length + 1) * 24 ≤ 140737488355328) := Lib.hid (by have := HLN.out.1; simp; omega)
              have HL3 : Hid ((((DE.drop (m + 1)).reverse).length + 1) * 32 ≤ 140737488355328) := Lib.hid (by have := HLN.out.2; simp; omega)
              obtain ⟨A2, n2, k2, q2⟩ := hs2.shape
              obtain ⟨A3, n3, k3, q3⟩ := hs3.shape
              subst q2 q3
              have HI1 : Hid (I64 a[m]) := Lib.hid hi1
              have HI3 : Hid (I64 DE[m].1) := Lib.hid hi3
              have HR2 := Lib.hid hs2.bounded
              have HR3 := Lib.hid hs3.bounded
              have HC1 := Lib.hid hc1
              have HC2 := Lib.hid hc2
              have HC3 := Lib.hid hc3
              have HC4 := Lib.hid hc4
              clear hi1 hi3 hs2 hs3 hc1 hc2 hc3 hc4 HY
              generalize a[m] = am at *
              generalize TH[m] = tm at *
              generalize DE[m] = dm at *
              clear hm1 hm2 hm3
              have hc1 := cellK HC1.out HGx.out (by simp)
              have HSZ0 : Hid (wq.heap.size ≤ wr.heap.size) := Lib.hid HGx.out.size
              have HREP1 : Hid (encI.rep (fun b => (TT b ∧ some b ≠ u12.ownBlock ∧ some b ≠ u14.ownBlock) ∧ some b ≠ u15.ownBlock) wr [.int .i64 am] am) := Lib.hid ⟨rfl, HI1.out⟩
              go_wp2_with (at_builtin; refine wpList_push rfl (.tmp 141) (.tmp 146) rfl (E := encI) (y := am) el_int HT0.out.trd rfl rfl HREP1.out HL1.out HSZ0.out (HT0.out.new3 (fun _ _ => trivial)) ?_)
              intro w15 w5 ha hg hm
              have HT1 := Lib.hid (HT0.out.three ha hg hm)
              have HG1 : Hid (wq.grownBy w5 none) := Lib.hid (grown_up HGx.out hg (fun g e => (HT0.out.trd.lt g e).1))
              have hc2 := cellK HC2.out HG1.out (by simp)
              have HSZ1 : Hid (wq.heap.size ≤ w5.heap.size) := Lib.hid HG1.out.size
              have HREP2 : Hid ((encS encP).rep (fun b => (TT b ∧ some b ≠ u14.ownBlock ∧ some b ≠ w15.ownBlock) ∧ some b ≠ u12.ownBlock) w5 [.slice A2 n2 k2] tm) := Lib.hid ⟨_, rfl, (HR2.out.kept HG1.out).more fun g _ h => by
                obtain ⟨f1, f2, f3⟩ := HT1.out.far h.2
                exact ⟨⟨trivial, f2, f3⟩, f1⟩⟩
              clear ha hg hm hc1
              go_wp2_with (at_builtin; refine wpList_push rfl (.tmp 148) (.tmp 153) rfl (E := encS encP) (y := tm) el_pairs HT1.out.fst rfl rfl HREP2.out HL2.out HSZ1.out (HT1.out.new1 (fun _ _ => trivial)) ?_)
              intro w12 w6 ha hg hm
              have HT2 := Lib.hid (HT1.out.one ha hg hm)
              have HG2 : Hid (wq.grownBy w6 none) := Lib.hid (grown_up HG1.out hg (fun g e => (HT1.out.fst.lt g e).1))
              have hc3 := cellK HC3.out HG2.out (by simp)
              have hc4 := cellK HC4.out HG2.out (by simp)
              have HSZ2 : Hid (wq.heap.size ≤ w6.heap.size) := Lib.hid HG2.out.size
              have HREP3 : Hid (encD.rep (fun b => (TT b ∧ some b ≠ w12.ownBlock ∧ some b ≠ w15.ownBlock) ∧ some b ≠ u14.ownBlock) w6 [.int .i64 dm.1, .slice A3 n3 k3] dm) := Lib.hid ⟨_, rfl, HI3.out, (HR3.out.kept HG2.out).more fun g _ h => by
                obtain ⟨f1, f2, f3⟩ := HT2.out.far h.2
                exact ⟨⟨trivial, f1, f3⟩, f2⟩⟩
              clear ha hg hm hc2
              go_wp2_with (at_builtin; refine wpList_push rfl (.tmp 155) (.tmp 160) rfl (E := encD) (y := dm) el_dealt HT2.out.snd rfl rfl HREP3.out HL3.out HSZ2.out (HT2.out.new2 (fun _ _ => trivial)) ?_)
              intro w14 w7 ha hg hm
              have HFIN : Hid (Tri (encS encP) encD encI wq.heap.size 25 41 3 TT w7 w12 w14 w15 (TH.drop m).reverse (DE.drop m).reverse (a.drop m).reverse ∧ wq.grownBy w7 none) := Lib.hid ⟨by rw [HS1.out, HS2.out, HS3.out]; exact HT2.out.two ha hg hm, grown_up HG2.out hg (fun g e => (HT2.out.snd.lt g e).1)⟩
              clear ha hg hm hc3 hc4
              go_wp2_with fail
              go_roundg m
              case measure => omega
              case rel => exact ⟨by go_num, by omega, HFIN⟩
        | succ m =>
          have hin : (i : Int) < (kk : Int) := by omega
          have hiN : i < kk := by omega
          have HS1 := Lib.hid HX.out.1
          have HGa := Lib.hid HX.out.2
          obtain ⟨wo, hwo⟩ : ∃ y, y = wr := ⟨_, rfl⟩
          subst hwo
          have HBo := Lib.hid (HB4.out.grown HGa.out (by simp))
          have HLo := Lib.hid (HL.out.kept (HG4.out.trans HGa.out))
          rw [← HNL.out] at HLo
          clear HX
          go_wp2_with fail
          go_loopg [17, 18, 19] nn (fun g s17 s18 s19 wx => ∃ s : Nat, s + g = nn ∧ s19 = .int .i64 s ∧ Hid (Side encP (encS encU) wo.heap.size 36 37 (fun g => wo.heap.size ≤ g) wx s17 s18 ((List.range s).map (pairAt l nn i)) ((List.range s).map fun s => comI' p (pairAt l nn i s) t) ∧ wo.grownBy wx none))
          case atStart => exact ⟨0, by omega, rfl, Lib.hid ⟨⟨Acc.nil _ _ _ _ _, Acc.nil _ _ _ _ _⟩, World.grownBy.refl _ none⟩⟩
          case round =>
            obtain ⟨s, hs, rfl, HY⟩ := hrel
            cases gk with
            | zero =>
              obtain rfl : nn = s := by omega
              have HT := Lib.hid (show Sl encP _ wr u17 (thingI l nn i) from HY.out.1.fst.sl)
              have HC := Lib.hid (show Sl (encS encU) _ wr u18 (colI' p l nn t i) from HY.out.1.snd.sl)
              obtain ⟨At, ct, et, _, _⟩ := HT.out.form
              obtain ⟨Ac, cc, ec, _, _⟩ := HC.out.form
              have ln1 : (thingI l nn i).length = nn := by simp [thingI]
              have ln2 : (colI' p l nn t i).length = nn := by simp [colI']
              rw [ln1] at et
              rw [ln2] at ec
              subst et ec
              have HGb := Lib.hid HY.out.2
              have HS2 := Lib.hid (HS1.out.kept HY.out.2)
              have hlt11 : ∀ g, u11.ownBlock = some g → g < wo.heap.size := fun g e => (HS1.out.fst.lt g e).2
              have hlt13 : ∀ g, u13.ownBlock = some g → g < wo.heap.size := fun g e => (HS1.out.snd.lt g e).2
              have HREP : Hid ((encS encP).rep (fun g => (TT g ∧ some g ≠ u13.ownBlock) ∧ some g ≠ u11.ownBlock) wr [.slice At nn ct] (thingI l nn i)) := Lib.hid ⟨_, rfl, HT.out.more fun g _ h => ⟨⟨trivial, fun e => by have h1 := hlt13 g e.symm; have h2 := h.1; omega⟩, fun e => by have h1 := hlt11 g e.symm; have h2 := h.1; omega⟩⟩
              have HSZ : Hid (w4.heap.size ≤ wr.heap.size) := Lib.hid (Nat.le_trans HGa.out.size HGb.out.size)
              have HLB1 : Hid ((((List.range i).map (thingI l nn)).length + 1) * 24 ≤ 140737488355328) := Lib.hid (by simp; omega)
              have HLB2 : Hid ((((List.range i).map (dealI' p l nn t a)).length + 1) * 32 ≤ 140737488355328) := Lib.hid (by simp; omega)
              have hia : i < a.length := by rw [HAL.out]; exact hiN
              obtain ⟨ga, oa, ca, ea, _, _, hac, hai⟩ := HA4.out.atI hia
              rw [HAL.out] at ea
              injection ea with e1 e2 e3
              subst e1 e3
              have HAI : Hid (I64 a[i]) := Lib.hid hai
              have HAC := Lib.hid hac
              have HDE : Hid (dealI' p l nn t a i = (a[i], colI' p l nn t i)) := Lib.hid (by simp [dealI', List.getElem?_eq_getElem hia])
              clear e2 hai hac hlt11 HY
              generalize a[i] = ai at *
              go_upto_region 27 with (at_builtin; refine wpList_push rfl (.tmp 121) (.tmp 123) rfl (E := encS encP) el_pairs HS2.out.fst rfl rfl HREP.out HLB1.out HSZ.out (HS2.out.new1 (fun _ _ => trivial)) ?_)
              intro w11 w5 ha5 hg5 hm5
              have HS3 := Lib.hid (HS2.out.one ha5 hg5 hm5)
              have HG5 : Hid (w4.grownBy w5 none) := Lib.hid (grown_up (HGa.out.trans HGb.out) hg5 (fun g e => (HS2.out.fst.lt g e).1))
              have hac5 := cell_kept HAC.out HG5.out (by simp)
              have HREP2 : Hid (encD.rep (fun g => (TT g ∧ some g ≠ w11.ownBlock) ∧ some g ≠ u13.ownBlock) w5 [.int .i64 ai, .slice Ac nn cc] (ai, colI' p l nn t i)) := Lib.hid ⟨_, rfl, HAI.out, by
                have h0 := HS1.out.fst.lt
                have h1 : Sl (encS encU) (fun g => wo.heap.size ≤ g ∧ g < wr.heap.size) wr (.slice Ac nn cc) (colI' p l nn t i) := HC.out.bounded.more fun g _ h => ⟨h.1.1, h.2⟩
                have h2 := h1.keep hg5 fun g hg e => by have := (h0 g e.symm).2; have := hg.1; omega
                refine h2.more fun g _ hg => ⟨⟨trivial, fun e => ?_⟩, fun e => by have := hlt13 g e.symm; have := hg.1; omega⟩
                exact hm5.ne hg.2 (fun e' => by have := (h0 g e').2; have := hg.1; omega) e.symm⟩
              have HSZ5 : Hid (w4.heap.size ≤ w5.heap.size) := Lib.hid HG5.out.size
              clear ha5 hg5 hm5
              go_wp2_with (at_builtin; refine wpList_push rfl (.tmp 125) (.tmp 132) rfl (E := encD) el_dealt HS3.out.snd rfl rfl HREP2.out HLB2.out HSZ5.out (HS3.out.new2 (fun _ _ => trivial)) ?_)
              intro w13 w6 ha6 hg6 hm6
              have HFIN : Hid (Side (encS encP) encD w4.heap.size 25 41 TT w6 w11 w13 ((List.range (i + 1)).map (thingI l nn)) ((List.range (i + 1)).map (dealI' p l nn t a)) ∧ w4.grownBy w6 none) := Lib.hid ⟨by rw [mapr_snoc, mapr_snoc, HDE.out]; exact HS3.out.two ha6 hg6 hm6, grown_up HG5.out hg6 (fun g e => (HS3.out.snd.lt g e).1)⟩
              clear ha6 hg6 hm6 hac5
              go_wp2_with fail
              go_roundg m
              case measure => omega
              case rel => exact ⟨i + 1, by omega, by go_num, HFIN⟩
            | succ m2 =>
              have hsn : (s : Int) < (nn : Int) := by omega
              have hsN : s < nn := by omega
              have HS2 := Lib.hid HY.out.1
              have HGb := Lib.hid HY.out.2
              have HBr := Lib.hid (HBo.out.grown HGb.out (by simp))
              obtain ⟨yy, hyy⟩ : ∃ y, y = pairAt l nn i s := ⟨_, rfl⟩
              have HUU : Hid (U64 yy.1 ∧ U64 yy.2) := Lib.hid (by rw [hyy]; exact pairAt_U64 HL.out (by omega) (by omega))
              have HYY := Lib.hid hyy
              obtain ⟨im, him⟩ : ∃ q : Nat, q = i * nn := ⟨_, rfl⟩
              have him2 : im ≤ 70 := by rw [him]; exact (show i * nn ≤ 7 * 10 from Nat.mul_le_mul (by omega) hn10)
              have him3 : (i : Int) * (nn : Int) = (im : Int) := by rw [him, Int.natCast_mul]
              have HIM := Lib.hid him
              have HWX : Hid (wr.grownBy (wr.alloc (.cells #[.int .u64 yy.1, .int .u64 yy.2] 36)) none) := Lib.hid (World.grownBy_alloc _ _ none)
              have HXB : Hid (Bk (wr.alloc (.cells #[.int .u64 yy.1, .int .u64 yy.2] 36)) wr.heap.size 36 #[.int .u64 yy.1, .int .u64 yy.2]) := Lib.hid (Bk.new _ _ _)
              clear hyy him HY
              have hcs : n = 0 ∨ 0 < n := by omega
              rcases hcs with hn0 | hn0
              case' inl =>
                have q1 : yy.1 = (i : Int) + (s : Int) := by rw [HYY.out, pairAt, if_neg (by rw [← HNL.out]; omega)]; simp
                have q2 : yy.2 = (i : Int) := by rw [HYY.out, pairAt, if_neg (by rw [← HNL.out]; omega)]
                have hnI : ¬ (n : Int) > 0 := by omega
                have q3 : IntKind.u64.wrap ((i : Int) + (s : Int)) = (i : Int) + (s : Int) := IntWalk.u64_in _ (by omega)
                have q4 : IntKind.u64.wrap (i : Int) = (i : Int) := IntWalk.u64_in _ (by omega)
                have HQQ : Hid (Obj.cells #[.int .u64 ((i : Int) + (s : Int)), .int .u64 (i : Int)] 36 = Obj.cells #[.int .u64 yy.1, .int .u64 yy.2] 36) := Lib.hid (by rw [q1, q2])
                clear q1 q2 hn0
                go_upto_region 19 with (fail)
                rw [HQQ.out]
                clear q3 q4 hnI
              case' inr =>
                have hkq : (im + s) % n < l.length := by rw [← HNL.out]; exact Nat.mod_lt _ hn0
                obtain ⟨kq, hkqd⟩ : ∃ q, q = (im + s) % n := ⟨_, rfl⟩
                rw [← hkqd] at hkq
                obtain ⟨gl, ol, cl, el, _, _, hc0, hc1, hu0, hu1⟩ := (HLo.out.kept HGb.out).atP hkq
                rw [← HNL.out] at el
                injection el with e1 e2 e3
                subst e1 e3
                have q0 : yy = l[kq] := by rw [HYY.out, pairAt, if_pos (by rw [← HNL.out]; exact hn0), ← HNL.out, ← HIM.out, ← hkqd, List.getElem?_eq_getElem hkq]; rfl
                rw [← q0] at hc0 hc1
                have hnI : (0 : Int) < (n : Int) := by omega
                have hnz : ¬ (n : Int) = 0 := by omega
                have q3 : IntKind.u64.wrap ((i : Int) + (s : Int)) = (i : Int) + (s : Int) := IntWalk.u64_in _ (by omega)
                have q4 : IntKind.u64.wrap (i : Int) = (i : Int) := IntWalk.u64_in _ (by omega)
                have q5 : Int.tmod ((im : Int) + (s : Int)) (n : Int) = (kq : Int) := by rw [Int.tmod_eq_emod_of_nonneg (by omega), hkqd]; exact (Int.natCast_emod (im + s) n).symm
                have q6 : ((im : Int) + (s : Int)) % (n : Int) = (kq : Int) := by rw [hkqd]; exact (Int.natCast_emod (im + s) n).symm
                have hkqn : kq < n := by rw [HNL.out]; exact hkq
                have hkqI : (kq : Int) < (n : Int) := by omega
                clear hkqd q0 e2 hu0 hu1 hkq
                go_upto_region 19 with (fail)
                clear q3 q4 q5 q6 hnI hnz hc0 hc1 hkqI hkqn
              all_goals
                obtain ⟨wn, hwn⟩ : ∃ y, y = wr.alloc (.cells #[.int .u64 yy.1, .int .u64 yy.2] 36) := ⟨_, rfl⟩
                rw [← hwn] at HWX HXB ⊢
                clear hwn
                obtain ⟨wl, hwl⟩ : ∃ y, y = wr := ⟨_, rfl⟩
                subst hwl
                have HGn : Hid (wo.grownBy wn none) := Lib.hid (HGb.out.trans HWX.out)
                have HSn := Lib.hid (HS2.out.kept HWX.out)
                have HBn := Lib.hid (HBr.out.grown HWX.out (by simp))
                have hx0 := HXB.out.cell 0
                have hx1 := HXB.out.cell 1
                simp at hx0 hx1
                have HLBt : Hid ((((List.range s).map (pairAt l nn i)).length + 1) * 16 ≤ 140737488355328) := Lib.hid (by simp; omega)
                have HLBc : Hid ((((List.range s).map fun s => comI' p (pairAt l nn i s) t).length + 1) * 24 ≤ 140737488355328) := Lib.hid (by simp; omega)
                have HREPt : Hid (encP.rep (fun g => (wo.heap.size ≤ g ∧ some g ≠ u18.ownBlock) ∧ some g ≠ u17.ownBlock) wn [.int .u64 yy.1, .int .u64 yy.2] yy) := Lib.hid ⟨rfl, HUU.out⟩
                have HSZn : Hid (wo.heap.size ≤ wn.heap.size) := Lib.hid HGn.out.size
                have HNE : Hid (some wl.heap.size ≠ u17.ownBlock) := Lib.hid (fun e => by have := (HS2.out.fst.lt _ e.symm).2; omega)
                go_wp2_with (at_builtin; refine wpList_push rfl (.tmp 96) (.tmp 98) rfl (E := encP) (y := yy) el_pair HSn.out.fst rfl rfl HREPt.out HLBt.out HSZn.out (HSn.out.new1 (fun _ h => Nat.le_trans HSZn.out h)) ?_)
                intro w17 w5 ha5 hg5 hm5
                have HS5 := Lib.hid (HSn.out.one ha5 hg5 hm5)
                have HG5 : Hid (wo.grownBy w5 none) := Lib.hid (grown_up HGn.out hg5 (fun g e => (HSn.out.fst.lt g e).1))
                have HX5 := Lib.hid (HXB.out.grown hg5 HNE.out)
                have HB5 := Lib.hid (HBo.out.grown HG5.out (by simp))
                clear ha5 hg5 hm5 hx0 hx1
                obtain ⟨cm, hcm⟩ : ∃ y, y = commitI p yy := ⟨_, rfl⟩
                have HCU : Hid (U64 cm) := Lib.hid (by rw [hcm]; exact timesI_U64 _ _)
                have HCM := Lib.hid (fun w' => commit_any p yy w' HP.out HUU.out.1 HUU.out.2)
                rw [← hcm] at HCM
                have HCI : Hid (∀ k, comI' p yy k = (List.range k).map fun q => powI cm ((q + 1 : Nat) : Int) p.P) := Lib.hid (fun k => by rw [hcm]; rfl)
                clear hcm
                go_wp2_with fail
                go_loopg [21, 22] t (fun g s21 s22 wx => ∃ j : Nat, j + g = t ∧ s22 = .int .i64 j ∧ Hid (Acc encU w5.heap.size 22 (fun g => w5.heap.size ≤ g) wx s21 (comI' p yy j) ∧ w5.grownBy wx none))
                case atStart => exact ⟨0, by omega, rfl, Lib.hid ⟨Acc.nil _ _ _ _ _, World.grownBy.refl _ none⟩⟩
                case round =>
                  obtain ⟨j, hj, rfl, HZ⟩ := hrel
                  have HZA := Lib.hid HZ.out.1
                  have HZG := Lib.hid HZ.out.2
                  have HBk := Lib.hid (HB5.out.grown HZG.out (by simp))
                  have HXk := Lib.hid (HX5.out.grown HZG.out (by simp))
                  have hp7 := HBk.out.prule
                  cases gk with
                  | zero =>
                    obtain rfl : t = j := by omega
                    have hle : ¬ (t : Int) ≤ p.T := by have := HTT.out.1; omega
                    obtain ⟨A21, c21, e21, _, _⟩ := HZA.out.sl.form
                    have ln21 : (comI' p yy t).length = t := by simp [comI']
                    rw [ln21] at e21
                    subst e21
                    have HS6 := Lib.hid (HS5.out.kept HZG.out)
                    have HG6 : Hid (wo.grownBy wr none) := Lib.hid (HG5.out.trans HZG.out)
                    have HSZ6 : Hid (wo.heap.size ≤ wr.heap.size) := Lib.hid HG6.out.size
                    have HREPc : Hid ((encS encU).rep (fun g => (wo.heap.size ≤ g ∧ some g ≠ w17.ownBlock) ∧ some g ≠ u18.ownBlock) wr [.slice A21 t c21] (comI' p yy t)) := Lib.hid ⟨_, rfl, HZA.out.sl.more fun g _ h => by
                      have h5 := HG5.out.size
                      have h6 : w5.heap.size ≤ g := h
                      exact ⟨⟨Nat.le_trans h5 h6, fun e => by have := (HS5.out.fst.lt _ e.symm).2; omega⟩, fun e => by have := (HS5.out.snd.lt _ e.symm).2; omega⟩⟩
                    clear HZ
                    go_wp2_with (at_builtin; refine wpList_push rfl (.tmp 117) (.tmp 119) rfl (E := encS encU) (y := comI' p yy t) el_nums HS6.out.snd rfl rfl HREPc.out HLBc.out HSZ6.out (HS6.out.new2 (fun _ h => Nat.le_trans HSZ6.out h)) ?_)
                    intro w18 w7 ha7 hg7 hm7
                    have HFIN : Hid (Side encP (encS encU) wo.heap.size 36 37 (fun g => wo.heap.size ≤ g) w7 w17 w18 ((List.range (s + 1)).map (pairAt l nn i)) ((List.range (s + 1)).map fun s => comI' p (pairAt l nn i s) t) ∧ wo.grownBy w7 none) := Lib.hid ⟨by rw [mapr_snoc, mapr_snoc, ← HYY.out]; exact HS6.out.two ha7 hg7 hm7, grown_up HG6.out hg7 (fun g e => (HS6.out.snd.lt g e).1)⟩
                    clear ha7 hg7 hm7 hp7
                    go_wp2_with fail
                    go_roundg m2
                    case measure => omega
                    case rel => exact ⟨s + 1, by omega, by go_num, HFIN⟩
                  | succ m3 =>
                    have hle : (j : Int) ≤ p.T := by have := HTT.out.1; omega
                    have hj3 : j ≤ 3 := by omega
                    have q7 : IntKind.i64.wrap ((j : Int) + 1) = (j : Int) + 1 := IntWalk.i64_in _ (by omega)
                    have q8 : IntKind.u64.wrap ((j : Int) + 1) = (j : Int) + 1 := IntWalk.u64_in _ (by omega)
                    have HPW := Lib.hid (fun w' => power_any p cm ((j : Int) + 1) w' HCU.out ⟨by omega, by omega⟩)
                    obtain ⟨r, hr⟩ : ∃ y, y = powI cm ((j : Int) + 1) p.P := ⟨_, rfl⟩
                    have HRU : Hid (U64 r) := Lib.hid (by rw [hr]; exact powI_U64' _ _ _)
                    rw [← hr] at HPW
                    have HSNc : Hid (comI' p yy (j + 1) = comI' p yy j ++ [r]) := Lib.hid (by rw [HCI.out, HCI.out, mapr_snoc, hr]; rfl)
                    obtain ⟨A21, c21, e21, _, _⟩ := HZA.out.sl.form
                    have ln21 : (comI' p yy j).length = j := by simp [comI']
                    rw [ln21] at e21
                    subst e21
                    have HLB3 : Hid (((comI' p yy j).length + [r].length) * 8 ≤ 140737488355328) := Lib.hid (by simp [comI']; omega)
                    clear hr HZ
                    go_upto_region 24 with (fail)
                    refine wp_region_mono 10 (by kernel_rfl) (by kernel_rfl) ?_
                    -- op 0 (slot 106): move
                    refine MonoR.step (Pv.eq (.slice A21 j c21)) [] (by kernel_rfl) (fun w' hw' => ?_) ?_
                    · refine ask_do rfl fun K hK => ?_
                      go_simp
                      exact hK _ _ rfl rfl (World.grownBy.refl _ none)
                    -- op 1 (slot 107): load
                    refine MonoR.step (Pv.eq (p.v)) [] (by kernel_rfl) (fun w' hw' => ?_) ?_
                    · refine ask_do rfl fun K hK => ?_
                      have hp := (HBk.out.grown ((grown_drewN' wr 1).trans hw') (by simp)).prule
                      have hx0 := (HXk.out.grown ((grown_drewN' wr 1).trans hw') (by simp)).cell 0
                      have hx1 := (HXk.out.grown ((grown_drewN' wr 1).trans hw') (by simp)).cell 1
                      simp at hx0 hx1
                      go_simp
                      exact hK _ _ rfl rfl (World.grownBy.refl _ none)
                    -- op 2 (slot 108): load
                    refine MonoR.step (Pv.eq (p.v)) [] (by kernel_rfl) (fun w' hw' => ?_) ?_
                    · refine ask_do rfl fun K hK => ?_
                      have hp := (HBk.out.grown ((grown_drewN' wr 1).trans hw') (by simp)).prule
                      have hx0 := (HXk.out.grown ((grown_drewN' wr 1).trans hw') (by simp)).cell 0
                      have hx1 := (HXk.out.grown ((grown_drewN' wr 1).trans hw') (by simp)).cell 1
                      simp at hx0 hx1
                      go_simp
                      exact hK _ _ rfl rfl (World.grownBy.refl _ none)
                    -- op 3 (slot 109): load
                    refine MonoR.step (Pv.eq (.agg #[.int .u64 yy.1, .int .u64 yy.2])) [] (by kernel_rfl) (fun w' hw' => ?_) ?_
                    · refine ask_do rfl fun K hK => ?_
                      have hp := (HBk.out.grown ((grown_drewN' wr 1).trans hw') (by simp)).prule
                      have hx0 := (HXk.out.grown ((grown_drewN' wr 1).trans hw') (by simp)).cell 0
                      have hx1 := (HXk.out.grown ((grown_drewN' wr 1).trans hw') (by simp)).cell 1
                      simp at hx0 hx1
                      go_simp
                      exact hK _ _ rfl rfl (World.grownBy.refl _ none)
                    -- op 4 (slot 110): call
                    refine MonoR.step (Pv.eq (.int .u64 cm)) [(2, 108), (3, 109)] (by kernel_rfl) (fun w' hw' => ?_) ?_
                    · rintro _ rfl
                      rintro _ rfl
                      refine ask_do rfl fun K hK => ?_
                      go_simp
                      refine (HCM.out w').mono ?_
                      rintro e w3 ⟨rfl, hg⟩
                      exact hK _ _ rfl rfl hg
                    -- op 5 (slot 111): move
                    refine MonoR.step (Pv.eq (.int .i64 (j : Int))) [] (by kernel_rfl) (fun w' hw' => ?_) ?_
                    · refine ask_do rfl fun K hK => ?_
                      go_simp
                      exact hK _ _ rfl rfl (World.grownBy.refl _ none)
                    -- op 6 (slot 112): binOp
                    refine MonoR.step (Pv.eq (.int .i64 ((j : Int) + 1))) [(5, 111)] (by kernel_rfl) (fun w' hw' => ?_) ?_
                    · rintro _ rfl
                      refine ask_do rfl fun K hK => ?_
                      go_simp
                      exact hK _ _ rfl rfl (World.grownBy.refl _ none)
                    -- op 7 (slot 113): convert
                    refine MonoR.step (Pv.eq (.int .u64 ((j : Int) + 1))) [(6, 112)] (by kernel_rfl) (fun w' hw' => ?_) ?_
                    · rintro _ rfl
                      refine ask_do rfl fun K hK => ?_
                      go_simp
                      exact hK _ _ rfl rfl (World.grownBy.refl _ none)
                    -- op 8 (slot 114): call
                    refine MonoR.step (Pv.eq (.int .u64 r)) [(1, 107), (4, 110), (7, 113)] (by kernel_rfl) (fun w' hw' => ?_) ?_
                    · rintro _ rfl
                      rintro _ rfl
                      rintro _ rfl
                      refine ask_do rfl fun K hK => ?_
                      go_simp
                      refine (HPW.out w').mono ?_
                      rintro e w3 ⟨rfl, hg⟩
                      exact hK _ _ rfl rfl hg
                    -- op 9 (slot 115): buildSlice
                    refine MonoR.step (Pv.sl encU TT [r]) [(8, 114)] (by kernel_rfl) (fun w' hw' => ?_) ?_
                    · rintro _ rfl
                      refine ask_do rfl fun K hK => ?_
                      go_simp
                      exact hK _ _ rfl (Sl.build [[.int .u64 r]] rfl ⟨⟨rfl, HRU.out⟩, trivial⟩ rfl (by decide)) (World.grownBy_alloc w' _ none)
                    
                    intro w6 hw6
                    intro y0 k0 y1 k1 y2 k2 y3 k3 y4 k4 y5 k5 y6 k6 y7 k7 y8 k8 y9 h9
                    simp only [Act.put, List.setIfInBounds_toArray, List.set_cons_zero, List.set_cons_succ]
                    have e0 : y0 = .slice A21 j c21 := k0
                    subst e0
                    obtain ⟨A12, c12, e12, _, _⟩ := h9.form
                    have e12 : y9 = .slice A12 1 c12 := e12
                    subst e12
                    have HG6d : Hid (wr.grownBy w6 none) := Lib.hid ((grown_drewN' wr 1).trans hw6)
                    have HA6 := Lib.hid (HZA.out.kept HG6d.out)
                    have HG6 : Hid (w5.grownBy w6 none) := Lib.hid (HZG.out.trans HG6d.out)
                    have HS12 : Hid (Sl encU TT w6 (.slice A12 1 c12) [r]) := Lib.hid h9
                    clear k0 k1 k2 k3 k4 k5 k6 k7 k8 h9 hw6 hp7
                    refine wpList_apps rfl (.tmp 106) (.tmp 115) rfl (E := encU) el_u64 HA6.out rfl rfl HS12.out (fun _ _ h => h) HLB3.out HG6.out.size (fun g hg => Nat.le_trans HG6.out.size hg) ?_
                    intro v8 w8 ha hgr _
                    have HFIN : Hid (Acc encU w5.heap.size 22 (fun g => w5.heap.size ≤ g) w8 v8 (comI' p yy (j + 1)) ∧ w5.grownBy w8 none) := Lib.hid ⟨by rw [HSNc.out]; exact ha, grown_up HG6.out hgr (fun g he => (HA6.out.lt g he).1)⟩
                    clear ha hgr
                    go_wp2_with fail
                    go_roundg m3
                    case measure => omega
                    case rel => exact ⟨j + 1, by omega, by go_num, HFIN⟩

end Go.Proofs.YtmjdpmfcbeaecaaDoor

namespace Go.Proofs.YtmjdpmfcbeaecaaDoor
open Go.ChangeShapes Go.WideShapes Go.RowKit

set_option maxRecDepth 100000 in
theorem open_params {H : Type} {enc : TypeId × Value → H} {w : World} {base : Nat} {spare : Nat → Bool} {held : Bool} {r : Reach} {b0 : Nat} {v : Value} {d : DataW H} {pl : List MemPlace}
    (hv : Value.okWide Tryd.prog w r b0 24 v) (h : DataW.Trod enc Tryd.prog w base spare held 24 v d pl) : ∃ p : Par, v = p.v ∧ p.ok := by
  obtain ⟨cs, rfl, hsz⟩ := okWide_struct Tryd.underlying24 hv
  obtain ⟨l⟩ := cs
  have hc : Tryd.prog.cellsOf 24 = 12 := by kernel_rfl
  have cu : Tryd.prog.cellsOf 22 = 1 := by kernel_rfl
  have ci : Tryd.prog.cellsOf 3 = 1 := by kernel_rfl
  have cj : Tryd.prog.cellsOf 2 = 1 := by kernel_rfl
  match l, hsz.trans hc with
  | [c0, c1, c2, c3, c4, c5, c6, c7, c8, c9, c10, c11], _ =>
    obtain ⟨fuel, hf⟩ := h
    obtain ⟨xs, n, _, _, _, hlen, hg⟩ := DataW.trod_struct Tryd.underlying24 hf
    match xs, hlen with
    | [y0, y1, y2, y3, y4, y5, y6, y7, y8, y9, y10, y11], _ =>
      have g0 := hg 0 _ rfl
      have g1 := hg 1 _ rfl
      have g2 := hg 2 _ rfl
      have g3 := hg 3 _ rfl
      have g4 := hg 4 _ rfl
      have g5 := hg 5 _ rfl
      have g6 := hg 6 _ rfl
      have g7 := hg 7 _ rfl
      have g8 := hg 8 _ rfl
      have g9 := hg 9 _ rfl
      have g10 := hg 10 _ rfl
      have g11 := hg 11 _ rfl
      simp [Value.cells, cu, ci, cj] at g0 g1 g2 g3 g4 g5 g6 g7 g8 g9 g10 g11
      obtain ⟨a0, e0, _, w0⟩ := DataW.trod_int Tryd.underlying22 g0
      simp at e0
      obtain ⟨a1, e1, _, w1⟩ := DataW.trod_int Tryd.underlying22 g1
      simp at e1
      obtain ⟨a2, e2, _, w2⟩ := DataW.trod_int Tryd.underlying22 g2
      simp at e2
      obtain ⟨a3, e3, _, w3⟩ := DataW.trod_int Tryd.underlying22 g3
      simp at e3
      obtain ⟨a4, e4, _, w4⟩ := DataW.trod_int Tryd.underlying3 g4
      simp at e4
      obtain ⟨a5, e5, _, w5⟩ := DataW.trod_int Tryd.underlying3 g5
      simp at e5
      obtain ⟨a6, e6, _, w6⟩ := DataW.trod_int Tryd.underlying3 g6
      simp at e6
      obtain ⟨a7, e7, _, w7⟩ := DataW.trod_int Tryd.underlying3 g7
      simp at e7
      obtain ⟨a8, e8, _, w8⟩ := DataW.trod_int Tryd.underlying3 g8
      simp at e8
      obtain ⟨a9, e9, _, w9⟩ := DataW.trod_int Tryd.underlying3 g9
      simp at e9
      obtain ⟨a10, e10, _, w10⟩ := DataW.trod_int Tryd.underlying2 g10
      simp at e10
      obtain ⟨a11, e11, _, w11⟩ := DataW.trod_int Tryd.underlying2 g11
      simp at e11
      subst e0 e1 e2 e3 e4 e5 e6 e7 e8 e9 e10 e11
      exact ⟨⟨a0, a1, a2, a3, a4, a5, a6, a7, a8, a9, a10, a11⟩, rfl, ⟨u64_wf w0, u64_wf w1, u64_wf w2, u64_wf w3, i64_wf w4, i64_wf w5, i64_wf w6, i64_wf w7, i64_wf w8, i64_wf w9, i64_wf w10, i64_wf w11⟩⟩
set_option maxRecDepth 100000 in
theorem open_pair {H : Type} {enc : TypeId × Value → H} {w : World} {base : Nat} {spare : Nat → Bool} {held : Bool} {r : Reach} {b0 : Nat} {v : Value} {d : DataW H} {pl : List MemPlace}
    (hv : Value.okWide Tryd.prog w r b0 36 v) (h : DataW.Trod enc Tryd.prog w base spare held 36 v d pl) : ∃ x : Int × Int, v = .agg #[.int .u64 x.1, .int .u64 x.2] ∧ U64 x.1 ∧ U64 x.2 := by
  obtain ⟨cs, rfl, hsz⟩ := okWide_struct Tryd.underlying36 hv
  obtain ⟨l⟩ := cs
  have hc : Tryd.prog.cellsOf 36 = 2 := by kernel_rfl
  have cu : Tryd.prog.cellsOf 22 = 1 := by kernel_rfl
  match l, hsz.trans hc with
  | [c0, c1], _ =>
    obtain ⟨fuel, hf⟩ := h
    obtain ⟨xs, n, _, _, _, hlen, hg⟩ := DataW.trod_struct Tryd.underlying36 hf
    match xs, hlen with
    | [y0, y1], _ =>
      have g0 := hg 0 _ rfl
      have g1 := hg 1 _ rfl
      simp [Value.cells, cu] at g0 g1
      obtain ⟨a0, e0, _, w0⟩ := DataW.trod_int Tryd.underlying22 g0
      obtain ⟨a1, e1, _, w1⟩ := DataW.trod_int Tryd.underlying22 g1
      simp at e0 e1
      subst e0 e1
      exact ⟨(a0, a1), rfl, u64_wf w0, u64_wf w1⟩
theorem cells_u64 : Tryd.prog.cellsOf 22 = 1 := by kernel_rfl
theorem reads_nums : Reads (encS encU) 37 := reads_sl Tryd.underlying37 (reads_u64 Tryd.underlying22) cells_u64
theorem cells_pair : Tryd.prog.cellsOf 36 = 2 := by kernel_rfl
theorem reads_pairs : Reads (encS encP) 25 := reads_sl Tryd.underlying25 (reads_pair Tryd.underlying36 ⟨rfl, rfl⟩ ⟨rfl, rfl⟩ Tryd.underlying22 cells_pair cells_u64) cells_pair
theorem cells_nums : Tryd.prog.cellsOf 37 = 1 := by kernel_rfl
theorem reads_rows : Reads (encS (encS encU)) 34 := reads_sl Tryd.underlying34 reads_nums cells_nums
theorem cells_rows : Tryd.prog.cellsOf 34 = 1 := by kernel_rfl
theorem reads_mat : Reads (encS (encS (encS encU))) 89 := reads_sl Tryd.underlying89 reads_rows cells_rows
theorem cells_pairs : Tryd.prog.cellsOf 25 = 1 := by kernel_rfl
theorem reads_prows : Reads (encS (encS encP)) 32 := reads_sl Tryd.underlying32 reads_pairs cells_pairs
theorem cells_int : Tryd.prog.cellsOf 3 = 1 := by kernel_rfl
theorem reads_ints : Reads (encS encI) 28 := reads_sl Tryd.underlying28 (reads_i64 Tryd.underlying3) cells_int
end Go.Proofs.YtmjdpmfcbeaecaaDoor

namespace Go.Proofs.YtmjdpmfcbeaecaaDoor
open Go.RowKit
theorem grown_drewN (w : World) : ∀ n, Grown w (w.drewN n)
  | 0 => Grown.refl w
  | n + 1 => (grown_drewN w n).drew
def tabL : List Int := [0, 1, 56, 2, 57, 49, 28, 3, 61, 58, 42, 50, 38, 29, 17, 4, 62, 47, 59, 36, 45, 43, 51, 22, 53, 39, 33, 30, 24, 18, 12, 5, 63, 55, 48, 27, 60, 41, 37, 16, 46, 35, 44, 21, 52, 32, 23, 11, 54, 26, 40, 15, 34, 20, 31, 10, 25, 14, 19, 9, 13, 8, 7, 6]
theorem tabZ' : ∀ j, j < 64 → tabL.getD j 0 = ((Lib.deBruijn64tab.getD j 0 : Nat) : Int) := by decide
theorem tabZ (j : Nat) (hj : j < Lib.deBruijn64tab.length) : tabL.getD j 0 = ((Lib.deBruijn64tab.getD j 0 : Nat) : Int) := tabZ' j hj
/-- What an initialiser lays into a variable's block. -/
def layCells (cs : Array Value) : Obj → Obj
  | .cells _ t f => .cells cs t f
  | o => o
end Go.Proofs.YtmjdpmfcbeaecaaDoor

namespace Go.Proofs.YtmjdpmfcbeaecaaDoor.shareRows
open Go.ChangeShapes Go.WideShapes Go.ChangeAt Go.RowKit
set_option linter.unusedVariables false
theorem own : ownKnob Tryd.prog.godebug = none := by kernel_rfl
theorem gA : Tryd.prog.globalNamed "math/bits.deBruijn64tab" = some 1 := by kernel_rfl
theorem gB : Tryd.prog.globalNamed "consistory/mod.tried" = some 0 := by kernel_rfl
theorem tA : (Tryd.prog.globals[1]?).map (·.type) = some 138 := by kernel_rfl
theorem tB : (Tryd.prog.globals[0]?).map (·.type) = some 123 := by kernel_rfl
theorem cA : Tryd.prog.cellsOf 138 = 64 := by kernel_rfl
theorem cB : Tryd.prog.cellsOf 123 = 12 := by kernel_rfl
theorem c8 : Tryd.prog.cellsOf 5 = 1 := by kernel_rfl
theorem c64 : Tryd.prog.cellsOf 22 = 1 := by kernel_rfl
theorem tabs {W : World} (h : laidMetH Tryd.prog Rows.shareRowsRow.laid W) : TabsAt W := by
  have h1 : laidMet Tryd.prog Rows.shareRowsRow.laid W := h
  have a := Lib.tabIs_of_head (zs := [0, 1, 56, 2, 57, 49, 28, 3, 61, 58, 42, 50, 38, 29, 17, 4, 62, 47, 59, 36, 45, 43, 51, 22, 53, 39, 33, 30, 24, 18, 12, 5, 63, 55, 48, 27, 60, 41, 37, 16, 46, 35, 44, 21, 52, 32, 23, 11, 54, 26, 40, 15, 34, 20, 31, 10, 25, 14, 19, 9, 13, 8, 7, 6]) gA tA Tryd.underlying138 Tryd.underlying5 c8 cA h1
  have b := Lib.tabIs_of_head (rest := []) (zs := triedL) gB tB Tryd.underlying123 Tryd.underlying22 c64 cB (laidMet.tail h1)
  exact ⟨fun j hj => by rw [a.cell gA j hj]; exact congrArg (fun z => some (Value.int .u8 z)) (tabZ j hj), fun j hj => b.cell gB j hj⟩
theorem walk (p0 : Par) (v1 : Value) (l1 : List (Int × Int)) (a2 : Int) (a3 : Int) (w : World) (w0 : p0.ok) (w1 : Sl encP (fun _ => True) w v1 l1) (w2 : (Lit.int .i64 a2).wf = true) (w3 : (Lit.int .i64 a3).wf = true) (hT : TabsAt w) :
    Calls Tryd.prog 3 #[p0.v, v1, .int .i64 a2, .int .i64 a3] w fun e w' => e = .returned (.bool true) ∧ Below w.heap.size w w' :=
  (srows_any p0 v1 l1 a2 a3 w w0 w1 (i64_wf w2) (i64_wf w3) hT).mono fun _ _ ⟨he, hg⟩ => ⟨he, below_grown hg⟩
theorem laidOut : laidOutB Tryd.prog = true := by kernel_rfl
set_option maxRecDepth 100000 in
theorem contract (H : Type) (enc : TypeId × Value → H) (W : World) (base : Nat) (args : Array Value) (ds gs : List (DataW H)) (before : List MemPlace)
    (hval : ∀ (j : Nat) t v, Tryd.f3.params[j]? = some t → args[j]? = some v → Value.okWide Tryd.prog W .any base t v)
    (hW : DataW.Whole enc Tryd.prog Tryd.f3.params.toList Rows.shareRowsSpec.vars false W args.toList ds gs before) (hL : laidMetH Tryd.prog Rows.shareRowsRow.laid W) :
    Calls Tryd.prog 3 args W fun e W' => ∃ v, e = .returned v ∧ Rows.shareRowsSpec.post enc Tryd.prog Tryd.f3 false true false false W args v W' := by
  have hW' := hW
  obtain ⟨p, q, hA0, hV, rfl, hfz, hnd⟩ := hW
  have hA : DataW.TrodAll enc Tryd.prog W 0 (fun _ => true) true Tryd.f3.params.toList args.toList ds p := hA0
  rw [Tryd.params3] at hA hval
  obtain ⟨v0, vs0, d0, ds0, p0, q0, hargs, rfl, rfl, h0, r0⟩ := trodAll_cons hA
  obtain ⟨v1, vs1, d1, ds1, p1, q1, rfl, rfl, rfl, h1, r1⟩ := trodAll_cons r0
  obtain ⟨v2, vs2, d2, ds2, p2, q2, rfl, rfl, rfl, h2, r2⟩ := trodAll_cons r1
  obtain ⟨v3, vs3, d3, ds3, p3, q3, rfl, rfl, rfl, h3, r3⟩ := trodAll_cons r2
  obtain ⟨rfl, rfl, rfl⟩ := trodAll_nil r3
  obtain rfl : args = #[v0, v1, v2, v3] := by cases args; simp_all
  obtain ⟨rfl, rfl⟩ := trodVars_none hV
  have k0 := h0
  have lt0 : ∀ x ∈ p0, x.block < W.heap.size := by obtain ⟨m, hm⟩ := k0; exact DataW.trod_lt m _ _ _ hm
  obtain ⟨q0', rfl, w0⟩ := open_params (hval 0 24 v0 rfl rfl) k0
  obtain ⟨a1, len1, cap1, rfl⟩ := okWide_slice Tryd.underlying25 (hval 1 25 v1 rfl rfl)
  have k1 := h1
  have lt1 : ∀ x ∈ p1, x.block < W.heap.size := by obtain ⟨m, hm⟩ := k1; exact DataW.trod_lt m _ _ _ hm
  obtain ⟨l1, w1⟩ := open_sl reads_pairs k1
  obtain ⟨a2, rfl, rfl, rfl, w2⟩ := open_int Tryd.underlying3 (hval 2 3 v2 rfl rfl) h2
  obtain ⟨a3, rfl, rfl, rfl, w3⟩ := open_int Tryd.underlying3 (hval 3 3 v3 rfl rfl) h3
  clear hA0
  refine (walk q0' _ l1 a2 a3 W w0 w1 w2 w3 (tabs hL)).mono fun e W' ⟨he, bel⟩ => ?_
  subst he
  exact ⟨_, rfl, _, _, _, [], _, [], hW', trodAll_mk1 (shut_bool Tryd.underlying4 _), (trodAll_cons_mk (Below.trod laidOut (by kernel_rfl) (of_decide_eq_true (by kernel_rfl)) k0 bel lt0) (trodAll_cons_mk (Below.trod laidOut (by kernel_rfl) (of_decide_eq_true (by kernel_rfl)) k1 bel lt1) (trodAll_cons_mk (shut_int Tryd.underlying3 w2) (trodAll_cons_mk (shut_int Tryd.underlying3 w3) trodAll_mk0)))), rfl, bel.frame _, fun h => by cases h⟩
/-- A world for the witness: the settled one, the two tables laid. -/
noncomputable def laidWorld (os : Os) : World :=
  { World.holding Tryd.prog os ⟨#[], #[], []⟩ with heap := ((World.holding Tryd.prog os ⟨#[], #[], []⟩).heap.modify 0 (layCells #[.int .u64 2, .int .u64 3, .int .u64 5, .int .u64 7, .int .u64 11, .int .u64 13, .int .u64 17, .int .u64 19, .int .u64 23, .int .u64 29, .int .u64 31, .int .u64 37])).modify 1 (layCells #[.int .u8 0, .int .u8 1, .int .u8 56, .int .u8 2, .int .u8 57, .int .u8 49, .int .u8 28, .int .u8 3, .int .u8 61, .int .u8 58, .int .u8 42, .int .u8 50, .int .u8 38, .int .u8 29, .int .u8 17, .int .u8 4, .int .u8 62, .int .u8 47, .int .u8 59, .int .u8 36, .int .u8 45, .int .u8 43, .int .u8 51, .int .u8 22, .int .u8 53, .int .u8 39, .int .u8 33, .int .u8 30, .int .u8 24, .int .u8 18, .int .u8 12, .int .u8 5, .int .u8 63, .int .u8 55, .int .u8 48, .int .u8 27, .int .u8 60, .int .u8 41, .int .u8 37, .int .u8 16, .int .u8 46, .int .u8 35, .int .u8 44, .int .u8 21, .int .u8 52, .int .u8 32, .int .u8 23, .int .u8 11, .int .u8 54, .int .u8 26, .int .u8 40, .int .u8 15, .int .u8 34, .int .u8 20, .int .u8 31, .int .u8 10, .int .u8 25, .int .u8 14, .int .u8 19, .int .u8 9, .int .u8 13, .int .u8 8, .int .u8 7, .int .u8 6]) }
theorem laid_met (os : Os) : laidMet Tryd.prog Rows.shareRowsRow.laid ((laidWorld os).forCall (fun _ _ => 0) ⟨#[], #[.agg #[.int .u64 0, .int .u64 0, .int .u64 0, .int .u64 0, .int .i64 0, .int .i64 0, .int .i64 0, .int .i64 0, .int .i64 0, .int .i64 0, .int .i64 0, .int .i64 0], .slice none 0 0, .int .i64 0, .int .i64 0], []⟩).memory :=
  laidMet_of_run' 8 (by kernel_rfl) (by kernel_rfl)
theorem reads (os : Os) {H : Type} (enc : TypeId × Value → H) : ∃ places, DataW.whole enc Tryd.prog ((laidWorld os).forCall (fun _ _ => 0) ⟨#[], #[.agg #[.int .u64 0, .int .u64 0, .int .u64 0, .int .u64 0, .int .i64 0, .int .i64 0, .int .i64 0, .int .i64 0, .int .i64 0, .int .i64 0, .int .i64 0, .int .i64 0], .slice none 0 0, .int .i64 0, .int .i64 0], []⟩).memory Tryd.f3.params.toList Rows.shareRowsSpec.vars false (#[.agg #[.int .u64 0, .int .u64 0, .int .u64 0, .int .u64 0, .int .i64 0, .int .i64 0, .int .i64 0, .int .i64 0, .int .i64 0, .int .i64 0, .int .i64 0, .int .i64 0], .slice none 0 0, .int .i64 0, .int .i64 0] : Array Value).toList 8 = some ([.agg [.lit (.int .u64 0), .lit (.int .u64 0), .lit (.int .u64 0), .lit (.int .u64 0), .lit (.int .i64 0), .lit (.int .i64 0), .lit (.int .i64 0), .lit (.int .i64 0), .lit (.int .i64 0), .lit (.int .i64 0), .lit (.int .i64 0), .lit (.int .i64 0)], .nil, .lit (.int .i64 0), .lit (.int .i64 0)], [], places) :=
  ⟨[], by kernel_rfl⟩
set_option maxRecDepth 100000 in
theorem lifted (os : Os) (started : os.Started) (H : Type) (enc : TypeId × Value → H) (F : Stop.Interp) :
    ReturnsInHanded {} Tryd.checked os 3 .any ((OpenSpec.ofChange Rows.shareRowsSpec).preRow enc Tryd.prog Tryd.f3 Rows.shareRowsRow.domain false Rows.shareRowsRow.laid) (((OpenSpec.ofChange Rows.shareRowsSpec).at F).post enc Tryd.prog Tryd.f3 false true false false) := by
  obtain ⟨places, hx⟩ := reads os enc
  refine returnsInHanded_of_row (C := Tryd.checked) (s := OpenSpec.ofChange Rows.shareRowsSpec) own started (by kernel_rfl) Tryd.func3
    (witness_row_at (enc := enc) (C := Tryd.checked) false (laidWorld os) #[.agg #[.int .u64 0, .int .u64 0, .int .u64 0, .int .u64 0, .int .i64 0, .int .i64 0, .int .i64 0, .int .i64 0, .int .i64 0, .int .i64 0, .int .i64 0, .int .i64 0], .slice none 0 0, .int .i64 0, .int .i64 0] rfl (by kernel_rfl) (by kernel_rfl) (by kernel_rfl)
      (OpenSpec.preRow_of_cond 8 hx (by kernel_rfl) (fun k hk => by cases hk) (by kernel_rfl) (laid_met os))) ?_
  intro W base args ds gs before hval hW _ _ _ hL _ _
  exact contract H enc W base args ds gs before hval hW hL
set_option maxRecDepth 100000 in
theorem said : Rows.ShareRowsSaid :=
  OpenClaim.holds_of_cond 3 Tryd.f3 rfl rfl rfl rfl rfl rfl rfl ⟨rfl, rfl, rfl, rfl, rfl⟩ rfl rfl rfl rfl rfl (by kernel_rfl) Tryd.func3 (by kernel_rfl)
    (of_decide_eq_true (by kernel_rfl)) (by unfold Func.isWrapper; first | (rw [if_pos (by decide +kernel)]; kernel_rfl) | (rw [if_neg (by decide +kernel)]; exact ⟨rfl, rfl⟩))
    (fun os started H enc _ F => by rw [OpenClaim.pre_eq_preRow]; exact lifted os started H enc F)
set_option maxRecDepth 100000 in
theorem plain (f : FuncId) (fn : Func) (hf : Tryd.pinned.checked.prog.funcNamed "consistory/consistorylaw20.ShareRows" = some f) (hfn : Tryd.pinned.checked.prog.funcs[f]? = some fn) :
    false = Tryd.pinned.checked.prog.looks [] ∧ ∀ (j : Nat) t, fn.params[j]? = some t → Tryd.pinned.checked.prog.wantsStandIn t = false := by
  obtain rfl : f = 3 := Option.some.inj ((show Tryd.prog.funcNamed "consistory/consistorylaw20.ShareRows" = some 3 by kernel_rfl).symm.trans hf) |>.symm
  obtain rfl : fn = Tryd.f3 := (Option.some.inj (Tryd.func3.symm.trans hfn)).symm
  refine ⟨by kernel_rfl, fun j t ht => ?_⟩
  rw [Tryd.params3] at ht
  have hmem := Array.mem_of_getElem? ht
  have hor : t = 24 ∨ t = 25 ∨ t = 3 ∨ t = 3 := by simpa using hmem
  rcases hor with rfl | rfl | rfl | rfl
  all_goals first | exact (show Tryd.prog.wantsStandIn 25 = false by kernel_rfl) | exact (show Tryd.prog.wantsStandIn 24 = false by kernel_rfl) | exact (show Tryd.prog.wantsStandIn 3 = false by kernel_rfl)
set_option maxRecDepth 100000 in
theorem card : Rows.ShareRowsCardSaid :=
  Claim7.holds_tied_plain_at .later [] _ _ _ _ said (fun _ h => by cases h) (by kernel_rfl) (fun _ h => by cases h) shareRows_row_tie rfl ⟨rfl, rfl⟩ (by kernel_rfl) rfl plain (by kernel_rfl)
end Go.Proofs.YtmjdpmfcbeaecaaDoor.shareRows
