/- A region that draws its order: all its operations but the last one read, or call what leaves the world as it was but for draws; the last one (a store, an append) waits for all others. One walk in the order of the text. -/
import Derived.Test.YtnjbigbiclfcoaaDoorBase
import Derived.Deep.Quiet
import Derived.Deep.QuietTactic
import Derived.BigQuiet
import Derived.StillTail
namespace Go.Proofs.YtnjbigbiclfcoaaDoor
open Go

section
variable {P : Program} {ops : Array Oper} {md : Region.Mode} {C : World → Prop} {n : Nat}

/-- Whatever row those below n are taken in; behind f of them, Q. -/
def AnyRow (P : Program) (md : Region.Mode) (ops : Array Oper) (C : World → Prop) (n : Nat) (Q : Array Bool → Act → Prop) : Nat → Array Bool → Act → Prop
  | 0, done, a => Q done a
  | f + 1, done, a => Region.ready md ops done ≠ [] ∧ ∀ i ∈ Region.ready md ops done, i < n ∧ qOp P ops C i (AnyRow P md ops C n Q f (done.setIfInBounds i true)) a

theorem AnyRow.run {Q : Array Bool → Act → Prop} {R : Exit → Act → World → Prop} {g : Nat} (hQ : ∀ done a w, C w → Q done a → wpAny P md ops R g done a w) :
    ∀ (f : Nat) (done : Array Bool) (a : Act) (w : World), C w → AnyRow P md ops C n Q f done a → wpAny P md ops R (f + g) done a w := by
  intro f
  induction f with
  | zero => intro done a w hw h; rw [Nat.zero_add]; exact hQ _ _ _ hw h
  | succ f ih =>
    intro done a w hw h
    rw [show f + 1 + g = (f + g) + 1 by omega]
    exact ⟨fun e => absurd e h.1, fun i hi => wpOp_of_qOp hw (fun a' w' hw' k => ih _ a' w' hw' k) (h.2 i hi).2⟩

/-- The operation n waits for each one ahead of it, and none stands behind it. -/
def waitsAll (md : Region.Mode) (ops : Array Oper) (n : Nat) : Bool := decide (ops.size = n + 1) && (List.range n).all fun i => Region.waitsFor md ops n i

theorem ready_below (h : waitsAll md ops n = true) {done : Array Bool} {i : Nat} (hi : i < n) (hu : done.getD i true = false) {t : Nat} (ht : t ∈ Region.ready md ops done) : t < n := by
  simp only [waitsAll, Bool.and_eq_true, decide_eq_true_eq] at h
  obtain ⟨_, o, ho, hall⟩ := mem_ready.1 ht
  have hlt : t < ops.size := (Array.getElem?_eq_some_iff.1 ho).1
  rcases Nat.lt_or_ge t n with h1 | h1
  · exact h1
  · have htn : t = n := by omega
    subst htn
    obtain ⟨o', ho', e, he, hb, hon⟩ := Region.waitsFor_spec (List.all_eq_true.1 h.2 i (List.mem_range.2 hi))
    have hoo : o' = o := Option.some.inj (ho'.symm.trans ho)
    subst hoo
    have := hall e he hb
    rw [hon, getD_both hu] at this
    cases this

/-- What may come first may as well come later. -/
theorem AnyRow.first {i : Nat} {oi : Oper} {v : Value} {Q : Array Bool → Act → Prop} (hi : ops[i]? = some oi) (hsel : ∀ (j : Nat) (o : Oper) cs b, ops[j]? = some o → o.op ≠ .select cs b) (hW : waitsAll md ops n = true) (hin : i < n)
    (hend : ∀ done a, Q done a → ∀ j ∈ Region.ready md ops done, n ≤ j) :
    ∀ (f : Nat) (done : Array Bool) (a : Act),
      (∀ j oj, ops[j]? = some oj → j ≠ i → done.getD j true = false → (∀ e ∈ oj.after, Region.binds md e = true → e.on ≠ i) → oi.apart ops oj = true) →
      i ∈ Region.ready md ops done → YieldsIn P ops C oi v a → AnyRow P md ops C n Q f (done.setIfInBounds i true) (a.put oi.dst v) → AnyRow P md ops C n Q (f + 1) done a := by
  intro f
  induction f with
  | zero =>
    intro done a _ hr hy H
    refine ⟨fun e => by rw [e] at hr; exact absurd hr (by simp), fun j hj => ⟨ready_below hW hin (mem_ready.1 hr).1 hj, ?_⟩⟩
    rcases Decidable.em (j = i) with e | e
    · subst e; exact hy.qOp hi H
    · have h1 := hend _ _ H j (ready_mono hj e)
      have h2 := ready_below hW hin (mem_ready.1 hr).1 hj
      omega
  | succ f ih =>
    intro done a hfree hr hy H
    refine ⟨fun e => by rw [e] at hr; exact absurd hr (by simp), fun j hj => ⟨ready_below hW hin (mem_ready.1 hr).1 hj, ?_⟩⟩
    rcases Decidable.em (j = i) with e | e
    · subst e; exact hy.qOp hi H
    · obtain ⟨hju, oj, hoj, hall⟩ := mem_ready.1 hj
      have hno : ∀ e ∈ oj.after, Region.binds md e = true → e.on ≠ i := fun e' he hb hx => by
        have := hall e' he hb
        rw [hx, getD_both (mem_ready.1 hr).1] at this
        cases this
      have step := qOp_put hoj (hfree j oj hoj e hju hno) (fun cs b => hsel i oi cs b hi) (fun cs b => hsel j oj cs b hoj) hy (H.2 j (ready_mono hj e)).2
      refine qOp_mono (fun a' k => ih (done.setIfInBounds j true) a' (fun m om hm hmi hmu hmn => hfree m om hm hmi ?_ hmn) (ready_mono hr (Ne.symm e)) k.1 ?_) step
      · rcases Decidable.em (j = m) with e' | e'
        · subst e'; exact hju
        · rwa [getD_set_ne true e'] at hmu
      · rw [Array.setIfInBounds_comm _ _ e]
        exact k.2

theorem AnyRow.lex {g : Nat} {Q : Act → Prop} (hsel : Region.noSelect ops = true) (hW : waitsAll md ops n = true) :
    ∀ (l : List Oper) (k : Nat) (done : Array Bool) (a : Act), (∀ j, j < l.length → l[j]? = ops[k + j]?) → k + l.length = n → Region.lexHead md ops g l.length k done = true → wpQuiet P ops C Q l a →
      AnyRow P md ops C n (fun done' a' => Region.seqB md ops g n done' = true ∧ Q a') l.length done a := by
  intro l
  induction l with
  | nil =>
    intro k done a _ hk hB h
    obtain rfl : k = n := by simpa using hk
    exact ⟨by simpa [Region.lexHead] using hB, h⟩
  | cons o l ih =>
    intro k done a hl hk hB h
    have h0 : ops[k]? = some o := by simpa using (hl 0 (by simp)).symm
    simp only [List.length_cons, Region.lexHead, Bool.and_eq_true] at hB
    simp only [List.length_cons] at hk
    have hq : qOp P ops C k (wpQuiet P ops C Q l) a := by unfold qOp; simp only [h0]; exact h
    obtain ⟨v, hy, hK⟩ := yieldsIn_of_qOp h0 hq
    exact AnyRow.first h0 (Region.noSelect_spec hsel) hW (by omega) (fun _ _ hd => seqB_ready hd.1) l.length done a (Region.free_spec h0 hB.1.2) (by simpa using hB.1.1) hy
      (ih (k + 1) _ _ (fun j hj => by have := hl (j + 1) (by simp; omega); simpa [Nat.add_assoc, Nat.add_comm 1 j] using this) (by omega) hB.2 hK)

def lastB (md : Region.Mode) (ops : Array Oper) (n : Nat) : Bool := Region.noSelect ops && waitsAll md ops n && Region.lexHead md ops 1 n 0 (Array.replicate ops.size false)
/-- The law, whatever the class of worlds. -/
theorem wp_region_last {C : World → Prop} {id : Nat} {Q : Exit → Act → World → Prop} {a : Act} {w : World} {l : List Oper} (n : Nat) (hm : P.follows .mixedOrders = true) (hB : lastB .any l.toArray n = true) (hC : C (w.drewN 1))
    (h : wpQuiet P l.toArray C (fun a' => ∀ w', C w' → wpList P l.toArray Q (l.drop n) a' w') (l.take n) a) : (Code.region id l.toArray true).wp P Q a w := by
  simp only [lastB, Bool.and_eq_true] at hB
  obtain ⟨⟨hsel, hW⟩, hlex⟩ := hB
  have hsz : l.toArray.size = n + 1 := by
    have := hW
    simp only [waitsAll, Bool.and_eq_true, decide_eq_true_eq] at this
    exact this.1
  have hsz' : l.length = n + 1 := by simpa using hsz
  have htl : (l.take n).length = n := by simp; omega
  have hdl : (l.drop n).length = 1 := by simp; omega
  have H := AnyRow.lex (C := C) (md := .any) (g := 1) hsel hW (l.take n) 0 _ a (fun j hj => by
    have hj' : j < n := by rw [htl] at hj; exact hj
    simp [hj']) (by simpa using htl) (by rw [htl]; exact hlex) h
  refine wp_region_any hm ?_
  have := AnyRow.run (R := Q) (g := 1) (fun done a' w' hw' hd => by
    have := wpAny_of_seq (md := .any) (Q' := Q) (l.drop n) n done a' w' (fun j => by simp [List.getElem?_drop]) (by rw [hdl]; exact hd.1) (hd.2 w' hw')
    rwa [hdl] at this) _ _ _ _ hC H
  rw [htl, ← hsz] at this
  exact this
/-- One operation of such a region: it yields v in every world of the class. -/
theorem wpQuiet_val {C : World → Prop} {Q : Act → Prop} {o : Oper} {rest : List Oper} {a : Act} (hgd : o.guard = none) (v : Value) (hv : ∀ w, C w → o.quietAt P a C w v) (h : wpQuiet P ops C Q rest (a.put o.dst v)) : wpQuiet P ops C Q (o :: rest) a := by
  refine wpQuiet_step fun K hK => ?_
  rw [if_pos (by simp [Region.wanted, hgd])]
  exact ⟨v, hv, hK _ h⟩
/-- The law. -/
theorem wp_region_quiet_last {id : Nat} {Q : Exit → Act → World → Prop} {a : Act} {w : World} {l : List Oper} (n : Nat) (hm : P.follows .mixedOrders = true) (hB : lastB .any l.toArray n = true)
    (h : wpQuiet P l.toArray (fun w' => ∃ k, w' = w.drewN k) (fun a' => ∀ w', (∃ k, w' = w.drewN k) → wpList P l.toArray Q (l.drop n) a' w') (l.take n) a) : (Code.region id l.toArray true).wp P Q a w := by
  simp only [lastB, Bool.and_eq_true] at hB
  obtain ⟨⟨hsel, hW⟩, hlex⟩ := hB
  have hsz : l.toArray.size = n + 1 := by
    have := hW
    simp only [waitsAll, Bool.and_eq_true, decide_eq_true_eq] at this
    exact this.1
  have hsz' : l.length = n + 1 := by simpa using hsz
  have htl : (l.take n).length = n := by simp; omega
  have hdl : (l.drop n).length = 1 := by simp; omega
  have H := AnyRow.lex (C := fun w' => ∃ k, w' = w.drewN k) (md := .any) (g := 1) hsel hW (l.take n) 0 _ a (fun j hj => by
    have hj' : j < n := by rw [htl] at hj; exact hj
    simp [hj']) (by simpa using htl) (by rw [htl]; exact hlex) h
  refine wp_region_any hm ?_
  have := AnyRow.run (R := Q) (g := 1) (fun done a' w' hw' hd => by
    have := wpAny_of_seq (md := .any) (Q' := Q) (l.drop n) n done a' w' (fun j => by simp [List.getElem?_drop]) (by rw [hdl]; exact hd.1) (hd.2 w' hw')
    rwa [hdl] at this) _ _ _ _ ⟨1, rfl⟩ H
  rw [htl, ← hsz] at this
  exact this
end
end Go.Proofs.YtnjbigbiclfcoaaDoor
