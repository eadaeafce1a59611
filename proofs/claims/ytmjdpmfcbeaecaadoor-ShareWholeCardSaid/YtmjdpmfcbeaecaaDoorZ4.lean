/- A region that draws its order, in which some operations, one behind the other (the late ones: appends, stores), turn what lay there (printed by mk_late.py from XMono). share.Model, walked. The document's comparisons, of what is the same, walked. The document's comparison of models, of what is the same, walked. Weights, sums and commitments reckoned: what Lean can decide. math/bits.TrailingZeros64 and mod.Prime, walked. What comes in: data of whatever depth, as the walks want it. group.May, walked: its asks one by one. group.May, walked: the asks as values, and the whole. Powers and commitments modulo P: plain arithmetic. The plain law of weights: places apart, rows turned about, one place alone. No program in sight but the data's words. The plain law of weights: rows turned about, one place alone. What members' pairs, and dealers' commitments, come to: in whatever row, and of one alone: the plain law of ShareRows. -/
import Derived.Test.YtmjdpmfcbeaecaaDoorZ3
import Derived.Deep.QuietTactic
import Derived.BigQuiet
import Derived.Deep.LoopGhost
import Derived.Lib.TrailingZeros
import Derived.WalkMore
import Derived.ProofKit
import Derived.OpenShut
import Derived.ChangeOld
import Derived.Deep.Slices
namespace Go.Proofs.YtmjdpmfcbeaecaaDoor
open Go

/-- Where the worlds stand when some late operations are over, these having told values; and what the k-th of them does to what lay there. -/
structure Lt where
  C : List Value → World → Prop
  R : Nat → World → World → Prop
  g : ∀ {vs w w'}, C vs w → w.grownBy w' none → C vs w'
/-- What is known of a value, and stands: as long as nothing is written, and through the late operations from the fr-th on. -/
structure Qv (L : Lt) where
  p : List Value → Value → World → Prop
  fr : Nat
  st : ∀ {vs v w w'}, p vs v w → w.grownBy w' none → p vs v w'
  sr : ∀ {vs u v w w'}, fr ≤ vs.length → L.C vs w → L.R vs.length w w' → p vs v w → p (vs ++ [u]) v w'
def Qv.any {L : Lt} : Qv L := ⟨fun _ _ _ => True, 0, fun _ _ => trivial, fun _ _ _ _ => trivial⟩
def Qv.eq {L : Lt} (u : Value) : Qv L := ⟨fun _ v _ => v = u, 0, fun h _ => h, fun _ _ _ h => h⟩
/-- What the q-th late operation has told. -/
def Qv.slot {L : Lt} (q : Nat) : Qv L := ⟨fun vs v _ => vs[q]? = some v, q + 1, fun h _ => h, fun _ _ _ h => by
  have := (List.getElem?_eq_some_iff.1 h).1
  rw [List.getElem?_append_left this]
  exact h⟩
section
variable {L : Lt} {late : List Nat} {P : Program} {ops : Array Oper} {Q : Exit → Act → World → Prop} {n : Nat} {a0 : Act} {w0 : World}

def ToldL (T : Value → World → Prop) (dst : Option Tmp) (ds : List Deferred) : Exit → Act → World → Prop := fun e a' w' => e = .normal ∧ a'.defers = ds ∧ T (match dst with | some d => a'.eval (.tmp d) | none => undef) w'
def Ask' (P : Program) (ops : Array Oper) (vs : List Value) (Vs : List (Qv L)) (Qt : Exit → Act → World → Prop) (o : Oper) (w : World) : List (Nat × Tmp) → Act → Prop
  | [], a => wpList P ops Qt [o] a w
  | (j, d) :: js, a => ∀ x, (Vs.getD j Qv.any).p vs x w → Ask' P ops vs Vs Qt o w js (a.put (some d) x)
/-- What is asked of one operation. -/
def AskL (L : Lt) (late : List Nat) (P : Program) (ops : Array Oper) (Vs : List (Qv L)) (ds : List Deferred) (i : Nat) (V : Qv L) (o : Oper) (js : List (Nat × Tmp)) (a0 : Act) : Prop :=
  (late.contains i = false ∧ V.fr = 0 ∧ ∀ vs w, L.C vs w → Ask' P ops vs Vs (ToldL (fun v w' => V.p vs v w' ∧ w.grownBy w' none) o.dst ds) o w js a0) ∨
  (∃ q, late[q]? = some i ∧ V = Qv.slot q ∧ ∀ vs w, vs.length = q → L.C vs w → Ask' P ops vs Vs (ToldL (fun v w' => L.R q w w' ∧ L.C (vs ++ [v]) w') o.dst ds) o w js a0)
def LateR (L : Lt) (late : List Nat) (P : Program) (ops : Array Oper) (n : Nat) (a0 : Act) (F : List (Qv L) → Prop) : Nat → List (Qv L) → List Oper → Prop
  | 0, Rs, _ => F Rs.reverse
  | _ + 1, _, [] => False
  | k + 1, Rs, o :: os => ∃ (V : Qv L) (js : List (Nat × Tmp)), (pairB ops Rs.length js && lookB ops n Rs.length js) = true ∧ AskL L late P ops Rs.reverse a0.defers Rs.length V o js a0 ∧ LateR L late P ops n a0 F k (V :: Rs) os
theorem LateR.mono {F : List (Qv L) → Prop} {k : Nat} {Rs : List (Qv L)} {o : Oper} {os : List Oper} (V : Qv L) (js : List (Nat × Tmp)) (hc : (pairB ops Rs.length js && lookB ops n Rs.length js) = true) (hl : late.contains Rs.length = false) (hf : V.fr = 0) (hA : ∀ vs w, L.C vs w → Ask' P ops vs Rs.reverse (ToldL (fun v w' => V.p vs v w' ∧ w.grownBy w' none) o.dst a0.defers) o w js a0) (h : LateR L late P ops n a0 F k (V :: Rs) os) : LateR L late P ops n a0 F (k + 1) Rs (o :: os) := ⟨V, js, hc, .inl ⟨hl, hf, hA⟩, h⟩
theorem LateR.turn {F : List (Qv L) → Prop} {k : Nat} {Rs : List (Qv L)} {o : Oper} {os : List Oper} (q : Nat) (js : List (Nat × Tmp)) (hc : (pairB ops Rs.length js && lookB ops n Rs.length js) = true) (hl : late[q]? = some Rs.length) (hA : ∀ vs w, vs.length = q → L.C vs w → Ask' P ops vs Rs.reverse (ToldL (fun v w' => L.R q w w' ∧ L.C (vs ++ [v]) w') o.dst a0.defers) o w js a0) (h : LateR L late P ops n a0 F k (Qv.slot q :: Rs) os) : LateR L late P ops n a0 F (k + 1) Rs (o :: os) := ⟨Qv.slot q, js, hc, .inr ⟨q, hl, rfl, hA⟩, h⟩
theorem LateR.out {F : List (Qv L) → Prop} : ∀ {k : Nat} {Rs : List (Qv L)} {os : List Oper}, LateR L late P ops n a0 F k Rs os → k ≤ os.length ∧ ∃ Ws : List (Qv L), Ws.length = k ∧ F (Rs.reverse ++ Ws) ∧ ∀ m o, m < k → os[m]? = some o → ∃ V js, Ws[m]? = some V ∧ (pairB ops (Rs.length + m) js && lookB ops n (Rs.length + m) js) = true ∧ AskL L late P ops ((Rs.reverse ++ Ws).take (Rs.length + m)) a0.defers (Rs.length + m) V o js a0
  | 0, Rs, os, h => ⟨Nat.zero_le _, [], rfl, by rw [List.append_nil]; exact h, fun m o hm => by omega⟩
  | _ + 1, _, [], h => h.elim
  | k + 1, Rs, o :: os, ⟨V, js, hb, hA, hM⟩ => by
    obtain ⟨hkl, Ws, hl, hF, hk⟩ := LateR.out hM
    refine ⟨by simpa using hkl, V :: Ws, by simp [hl], by simpa using hF, fun m o' hm ho => ?_⟩
    cases m with
    | zero =>
      obtain rfl : o = o' := by simpa using ho
      refine ⟨V, js, rfl, hb, ?_⟩
      have : (Rs.reverse ++ V :: Ws).take (Rs.length + 0) = Rs.reverse := by
        rw [Nat.add_zero, ← List.length_reverse]
        exact List.take_left
      rw [this]
      exact hA
    | succ m =>
      obtain ⟨V', js', h1, h2, h3⟩ := hk m o' (by omega) (by simpa using ho)
      refine ⟨V', js', by simpa using h1, ?_, ?_⟩
      · simpa [Nat.add_assoc, Nat.add_comm 1 m] using h2
      · simpa [Nat.add_assoc, Nat.add_comm 1 m] using h3
def FinL' (G : Act → World → Prop) (vs : List Value) (w : World) : List (Qv L) → List Oper → Act → Prop
  | V :: Vs, o :: os, a => ∀ x, V.p vs x w → FinL' G vs w Vs os (a.put o.dst x)
  | _, _, a => G a w
theorem FinL'.all {G : Act → World → Prop} {vs : List Value} {w : World} {b : Act} : ∀ {Vs : List (Qv L)} {os : List Oper} {a : Act}, Vs.length = os.length → (∀ (k : Nat) (V : Qv L) (o : Oper), Vs[k]? = some V → os[k]? = some o → V.p vs (match o.dst with | some d => b.eval (.tmp d) | none => undef) w) → FinL' G vs w Vs os a → G (onto b (os.map (·.dst)) a) w
  | [], [], _, _, _, h => h
  | V :: Vs, o :: os, a, hl, hx, h => FinL'.all (Vs := Vs) (os := os) (by simpa using hl) (fun k V o hv ho => hx (k + 1) V o (by simpa using hv) (by simpa using ho)) (h _ (hx 0 V o rfl rfl))
  | [], _ :: _, _, hl, _, _ => by simp at hl
  | _ :: _, [], _, hl, _, _ => by simp at hl
theorem Ask'.all {vs : List Value} {Vs : List (Qv L)} {Qt : Exit → Act → World → Prop} {o : Oper} {w : World} {b : Act} : ∀ {js : List (Nat × Tmp)} {a : Act}, (∀ x : Nat × Tmp, x ∈ js → (Vs.getD x.1 Qv.any).p vs (b.eval (.tmp x.2)) w) → Ask' P ops vs Vs Qt o w js a → wpList P ops Qt [o] (onto b (js.map fun x => some x.2) a) w
  | [], _, _, h => h
  | (j, d) :: js, a, hx, h => Ask'.all (js := js) (fun x hm => hx x (List.mem_cons_of_mem _ hm)) (h _ (hx (j, d) (by simp)))
/-- Which late operations are over: the first k. -/
def Cls (L : Lt) (late : List Nat) (vs : List Value) (D : Array Bool) (w : World) : Prop := vs.length ≤ late.length ∧ L.C vs w ∧ ∀ q i, late[q]? = some i → (D.getD i false = true ↔ q < vs.length)
structure LInv (L : Lt) (late : List Nat) (ops : Array Oper) (n : Nat) (a0 : Act) (Vs : List (Qv L)) (vs : List Value) (D : Array Bool) (a : Act) (w : World) : Prop where
  head : HeadInv .any ops n D
  cls : Cls L late vs D w
  tsize : a.tmps.size = a0.tmps.size
  defers : a.defers = a0.defers
  rest : ∀ t, (∀ j, j < n → D.getD j false = true → dstAt ops j ≠ some t) → a.tmps[t]? = a0.tmps[t]?
  known : ∀ j V, D.getD j false = true → Vs[j]? = some V → V.p vs (valOf (dstAt ops j) a) w
theorem toldL_letsOut {T : Value → World → Prop} {dst : Option Tmp} {ds : List Deferred} : ¬ LetsOut (ToldL T dst ds) := by
  rintro ⟨a, w', e, _⟩
  cases e
def chainB (ops : Array Oper) (late : List Nat) : Bool := (List.range (late.length - 1)).all fun q => Region.waitsFor .any ops (late.getD (q + 1) 0) (late.getD q 0)
def lateB (ops : Array Oper) (n : Nat) (late : List Nat) : Bool := late.all (fun i => decide (i < n)) && decide late.Nodup && chainB ops late
theorem toldL_op {T : Value → World → Prop} {o : Oper} {a b : Act} {w : World} (hs : ∀ cs b, o.op ≠ .select cs b) (hd : ∀ d, o.dst = some d → d < a.tmps.size) (hsz : b.tmps.size = a.tmps.size) (hlook : ∀ t ∈ o.looksAt ops, b.tmps[t]? = a.tmps[t]?) {i : Nat} (hi : ops[i]? = some o)
    (hdf : b.defers = a0.defers) (h : wpList P ops (ToldL T o.dst a0.defers) [o] b w) : wpOp P ops Q i (fun a' w' => ∃ v, a' = a.put o.dst v ∧ T (match o.dst with | some _ => v | none => undef) w') a w := by
  have hex : execOp b.eval o = execOp a.eval o := execOp_congr o hs fun x hx => by
    cases x with
    | tmp t => exact eval_of _ _ _ (hlook t (List.mem_append_left _ (List.mem_filterMap.2 ⟨.tmp t, by simpa using hx, rfl⟩)))
    | _ => rfl
  have hwn : Region.wanted o (yielded ops b.tmps) = Region.wanted o (yielded ops a.tmps) := by
    unfold Region.wanted
    cases hg : o.guard with
    | none => rfl
    | some gw =>
      obtain ⟨g, want⟩ := gw
      have hy : yielded ops b.tmps g = yielded ops a.tmps g := by
        unfold yielded
        cases ht : (ops[g]?).bind (·.dst) with
        | none => rfl
        | some t => simp only [Option.bind_some, hlook t (by simp [Oper.looksAt, hg, ht])]
      simp only [hy]
  have fin : ∀ v w', ToldL T o.dst a0.defers .normal (b.put o.dst v) w' → ∃ v', a.put o.dst v = a.put o.dst v' ∧ T (match o.dst with | some _ => v' | none => undef) w' := by
    rintro v w' ⟨_, _, h1⟩
    refine ⟨v, rfl, ?_⟩
    cases hdd : o.dst with
    | none => rw [hdd] at h1; exact h1
    | some d =>
      rw [hdd] at h1
      have hlt := hd d hdd
      have : (b.put (some d) v).eval (.tmp d) = v := by simp [Act.put, Act.eval, Array.getD_eq_getD_getElem?, hsz, hlt]
      simp only [this] at h1
      exact h1
  unfold wpOp
  simp only [hi]
  simp only [wpList, hwn] at h
  split
  · rename_i hw
    rw [if_pos hw] at h
    rcases h with h | h
    · left
      unfold Oper.wp at h ⊢
      rw [hex] at h
      generalize (execOp a.eval o).run P w = r at *
      cases r with
      | ok x w' =>
        cases x with
        | value v => exact fin v w' h
        | skip => exact fin undef w' h
        | enter f args =>
          refine Calls.mono h fun e w'' he => ?_
          cases e with
          | returned u => exact fin u w'' he
          | panicked c => exact absurd he.1 (by simp)
          | outgrown => exact absurd he toldL_letsOut
        | row row args => exact Rows.mono h fun u w'' he => fin u w'' he
        | defer d =>
          obtain ⟨_, h1, _⟩ := h
          have h1 : (Act.put { b with defers := d :: b.defers } o.dst undef).defers = a0.defers := h1
          rw [put_defers, ← hdf] at h1
          exact absurd (congrArg List.length h1) (by simp)
        | _ => exact h.elim
      | halt x w' =>
        cases x with
        | panic v => exact absurd h.1 (by simp)
        | _ => exact h.elim
    · exact absurd h.2 toldL_letsOut
  · rename_i hw
    rw [if_neg hw] at h
    exact fin undef w h
theorem linv_step {L : Lt} {late : List Nat} {vs vs2 : List Value} {Vs : List (Qv L)} {D : Array Bool} {a a' : Act} {w w' : World} {i : Nat} {o : Oper} {V : Qv L} {v : Value} (inv : LInv L late ops n a0 Vs vs D a w) (hd : distB ops n a0.tmps.size = true) (hi : i ∈ Region.ready .any ops D) (hin : i < n) (ho : ops[i]? = some o) (hV : Vs[i]? = some V) (hnl : Vs.length ≤ n)
    (ha : a' = a.put o.dst v) (hv : V.p vs2 (match o.dst with | some _ => v | none => undef) w') (hg : ∀ (W : Qv L) (j : Nat), D.getD j false = true → Vs[j]? = some W → ∀ {u : Value}, W.p vs u w → W.p vs2 u w') (hcl : Cls L late vs2 (D.setIfInBounds i true) w') : LInv L late ops n a0 Vs vs2 (D.setIfInBounds i true) a' w' := by
  subst ha
  have hdi : dstAt ops i = o.dst := by simp [dstAt, ho]
  have hun : D.getD i true = false := (mem_ready.1 hi).1
  have hlt : i < D.size := by
    rcases Nat.lt_or_ge i D.size with h' | h'
    · exact h'
    · simp [Array.getElem?_eq_none h'] at hun
  refine ⟨inv.head.set hi hin, hcl, (put_size _ _ _).trans inv.tsize, (put_defers _ _ _).trans inv.defers, fun t ht => ?_, fun j W hj hW => ?_⟩
  · have h1 : o.dst ≠ some t := fun e => ht i hin (by simp [hlt]) (hdi.trans e)
    refine Eq.trans ?_ (inv.rest t fun j hj hD => ht j hj (getD_set_true hD))
    cases hdd : o.dst with
    | none => rfl
    | some d => exact put_at _ _ _ _ (fun e => h1 (by rw [hdd, e]))
  · by_cases e : i = j
    · subst e
      obtain rfl : V = W := Option.some.inj (hV.symm.trans hW)
      rw [hdi]
      cases hdd : o.dst with
      | none => rw [hdd] at hv; exact hv
      | some d =>
        rw [hdd] at hv
        have hds := list_all_range hd hin
        rw [hdi, hdd] at hds
        simp only [Bool.and_eq_true, decide_eq_true_eq] at hds
        have : (a.put (some d) v).eval (.tmp d) = v := by simp [Act.put, Act.eval, Array.getD_eq_getD_getElem?, inv.tsize, hds.1]
        show V.p vs2 ((a.put (some d) v).eval (.tmp d)) w'
        rw [this]
        exact hv
    · have hjn : j < n := by have := (List.getElem?_eq_some_iff.1 hW).1; omega
      rw [getD_set_ne false e] at hj
      have h1 := hg W j hj hW (inv.known j W hj hW)
      cases hdj : dstAt ops j with
      | none => rw [hdj] at h1; exact h1
      | some dj =>
        rw [hdj] at h1
        have h1 : W.p vs2 (a.eval (.tmp dj)) w' := h1
        show W.p vs2 ((a.put o.dst v).eval (.tmp dj)) w'
        cases hdd : o.dst with
        | none => exact h1
        | some d =>
          have hds := list_all_range hd hin
          rw [hdi, hdd] at hds
          simp only [Bool.and_eq_true, decide_eq_true_eq] at hds
          have h2 := list_all_range hds.2 hjn
          simp only [Bool.or_eq_true, beq_iff_eq, bne_iff_ne, ne_eq] at h2
          have h3 : d ≠ dj := fun e' => (h2.resolve_left (fun e2 => e e2.symm)) (by rw [hdj, e'])
          rw [eval_of _ a dj (put_at a d dj v h3)]
          exact h1
/-- The law. -/
theorem wpAny_late {l : List Oper} (n : Nat) (hB : monoB l.toArray n a0.tmps.size = true) (hBl : lateB l.toArray n late = true) (hC0 : L.C [] w0)
    (h : LateR L late P l.toArray n a0 (fun Vs => ∀ vs w, vs.length = late.length → L.C vs w → FinL' (fun a w => wpList P l.toArray Q (l.drop n) a w) vs w Vs (l.take n) a0) n [] l) : wpAny P .any l.toArray Q l.toArray.size (Array.replicate l.toArray.size false) a0 w0 := by
  simp only [monoB, Bool.and_eq_true, decide_eq_true_eq] at hB
  obtain ⟨⟨⟨⟨hsel, hn⟩, htail⟩, htopo⟩, hdist⟩ := hB
  simp only [tailB, Bool.and_eq_true] at htail
  obtain ⟨hblk, hseq⟩ := htail
  simp only [lateB, Bool.and_eq_true, decide_eq_true_eq] at hBl
  obtain ⟨⟨hlt0, hnd⟩, hch⟩ := hBl
  have hlate : ∀ i ∈ late, i < n := fun i hi => by simpa using List.all_eq_true.1 hlt0 i hi
  have hchain : ∀ q, q + 1 < late.length → ∀ i, late[q + 1]? = some i → ∀ i', late[q]? = some i' → Region.waitsFor .any l.toArray i i' = true := fun q hq i h1 i' h2 => by
    have := list_all_range hch (show q < late.length - 1 by omega)
    rw [List.getD_eq_getElem?_getD, List.getD_eq_getElem?_getD, h1, h2] at this
    exact this
  obtain ⟨_, Vs, hVl, hF, hO⟩ := LateR.out h
  rw [List.reverse_nil, List.nil_append] at hF
  simp only [List.reverse_nil, List.nil_append, List.length_nil, Nat.zero_add] at hO
  have hnl : n ≤ l.length := by simpa using hn
  have htl : (l.take n).length = n := by simp; omega
  have hVn : Vs.length = n := hVl
  have hfr : ∀ j W, Vs[j]? = some W → (late.contains j = false ∧ W.fr = 0) ∨ ∃ q, late[q]? = some j ∧ W.fr ≤ q + 1 := fun j W hW => by
    have hj : j < n := by have := (List.getElem?_eq_some_iff.1 hW).1; omega
    obtain ⟨V, js, hV, _, hask⟩ := hO j l[j] hj (List.getElem?_eq_getElem (by omega))
    obtain rfl : V = W := Option.some.inj (hV.symm.trans hW)
    rcases hask with ⟨h1, h2, _⟩ | ⟨q, h1, h2, _⟩
    · exact .inl ⟨h1, h2⟩
    · exact .inr ⟨q, h1, by rw [h2]; exact Nat.le_refl _⟩
  have hdl : (l.drop n).length = l.toArray.size - n := by simp
  have hnext : ∀ i o, i < n → l.toArray[i]? = some o → (l.take n)[i]? = some o := fun i o hi ho => by
    rw [List.getElem?_take, if_pos hi]
    simpa using ho
  have key : ∀ m vs D a w, LInv L late l.toArray n a0 Vs vs D a w → cnt D n = m → wpAny P .any l.toArray Q (m + (l.toArray.size - n)) D a w := by
    intro m
    induction m with
    | zero =>
      intro vs D a w inv hc
      have hall := cnt_zero hc
      have hD : D = Array.replicate n true ++ Array.replicate (l.toArray.size - n) false := by
        have hsz := inv.head.size
        refine Array.ext (by simp [hsz]; omega) fun i h1 h2 => ?_
        rw [Array.getElem_append]
        by_cases hi : i < n
        · have := hall i hi
          simp [h1] at this
          simp [hi, this]
        · have := inv.head.tail i (by omega) (by omega)
          simp [h1] at this
          simp [hi, this]
      have hk : ∀ (k : Nat) (V : Qv L) (o : Oper), Vs[k]? = some V → (l.take n)[k]? = some o → V.p vs (match o.dst with | some d => a.eval (.tmp d) | none => undef) w := by
        intro k V o hv ho
        have hkn : k < n := by have := (List.getElem?_eq_some_iff.1 hv).1; omega
        have h1 := inv.known k V (hall k hkn) hv
        have h2 : dstAt l.toArray k = o.dst := by
          have : l[k]? = some o := by rw [List.getElem?_take, if_pos hkn] at ho; exact ho
          simp [dstAt, this]
        rw [h2] at h1
        have h3 : (match o.dst with | some d => a.eval (.tmp d) | none => undef) = valOf o.dst a := by cases o.dst <;> rfl
        rw [h3]
        exact h1
      have hcl : vs.length = late.length ∧ L.C vs w := by
        obtain ⟨hk0, hk1, hk2⟩ := inv.cls
        rcases Nat.lt_or_ge vs.length late.length with h | h
        case inr => exact ⟨by omega, hk1⟩
        · have h1 := (hk2 vs.length late[vs.length] (List.getElem?_eq_getElem h)).1 (hall _ (hlate _ (List.getElem_mem h)))
          omega
      have hfin := FinL'.all (hVl.trans htl.symm) hk (hF vs w hcl.1 hcl.2)
      have hon : onto a ((l.take n).map (·.dst)) a0 = a := by
        refine act_ext (fun t => onto_at a t _ _ inv.tsize.symm ?_) ((onto_defers _ _ _).trans inv.defers.symm)
        by_cases ht : some t ∈ (l.take n).map (·.dst)
        · exact .inl ht
        · refine .inr (inv.rest t fun j hj _ e => ht ?_).symm
          have hjl : j < l.length := by omega
          have : l[j].dst = some t := by simpa [dstAt, hjl] using e
          exact List.mem_map.2 ⟨l[j], List.mem_iff_getElem?.2 ⟨j, by rw [List.getElem?_take, if_pos hj, List.getElem?_eq_getElem hjl]⟩, this⟩
      rw [hon] at hfin
      have := wpAny_of_seq (md := .any) (Q' := Q) (l.drop n) n D a w (fun j => by simp [List.getElem?_drop]) (by rw [hdl, hD]; exact hseq) hfin
      rw [hdl] at this
      rwa [Nat.zero_add]
    | succ m ih =>
      intro vs D a w inv hc
      have hready : ∀ i ∈ Region.ready .any l.toArray D, i < n := by
        intro i hi
        rcases Nat.lt_or_ge i n with h' | h'
        · exact h'
        · obtain ⟨hu, oi, hoi, hall⟩ := mem_ready.1 hi
          have hlt : i < l.toArray.size := (Array.getElem?_eq_some_iff.1 hoi).1
          exfalso
          obtain ⟨k, hk, hkd⟩ : ∃ k, k < n ∧ D.getD k false = false := by
            refine Classical.byContradiction fun hno => ?_
            have : ∀ k, k ≤ n → cnt D k = 0 := by
              intro k
              induction k with
              | zero => intro _; rfl
              | succ k ihk =>
                intro hk
                have h1 : D.getD k false = true := by
                  refine Classical.byContradiction fun hx => hno ⟨k, by omega, by simpa using hx⟩
                simp only [cnt, h1, ihk (by omega)]
                rfl
            rw [this n (Nat.le_refl _)] at hc
            omega
          have hb := list_all_range hblk hlt
          simp only [Bool.or_eq_true, decide_eq_true_eq] at hb
          have hb := list_all_range (hb.resolve_left (by omega)) hk
          simp only [Bool.not_eq_true'] at hb
          have hik : i ≠ k := by omega
          have : av l.toArray k n i = true := by
            have hav := fun f j hj => av_of (ops := l.toArray) inv.head.closed inv.head.size hkd f j hj
            cases hn0 : n with
            | zero => simp [av, hik]
            | succ f =>
              simp only [av, hoi, Option.map_some, Option.getD_some, Bool.and_eq_true, bne_iff_ne]
              refine ⟨hik, ?_⟩
              rw [Array.all_eq_true_iff_forall_mem]
              intro e he
              by_cases hbd : Region.binds .any e = true
              · simp [hbd, hav f e.on (hall e he hbd)]
              · simp [hbd]
          rw [hb] at this
          cases this
      have hne : Region.ready .any l.toArray D ≠ [] := by
        have hex : ∃ k, k < n ∧ D.getD k false = false ∧ ∀ j, j < k → D.getD j false = true := by
          have : ∀ k, k ≤ n → (∃ q, q < k ∧ D.getD q false = false ∧ ∀ j, j < q → D.getD j false = true) ∨ (cnt D k = 0) := by
            intro k
            induction k with
            | zero => intro _; exact .inr rfl
            | succ k ihk =>
              intro hk
              rcases ihk (by omega) with ⟨q, h1, h2⟩ | h0
              · exact .inl ⟨q, by omega, h2⟩
              · cases hq : D.getD k false with
                | true => right; simp only [cnt, hq, h0]; rfl
                | false => exact .inl ⟨k, by omega, hq, cnt_zero h0⟩
          rcases this n (Nat.le_refl _) with ⟨q, h1, h2⟩ | h0
          · exact ⟨q, h1, h2⟩
          · omega
        obtain ⟨k, hk, hkd, hbel⟩ := hex
        have hkl : k < l.toArray.size := by omega
        have ho : l.toArray[k]? = some l.toArray[k] := Array.getElem?_eq_getElem hkl
        have : k ∈ Region.ready .any l.toArray D := by
          refine mem_ready.2 ⟨getD_in (by rw [inv.head.size]; exact hkl) hkd, _, ho, fun e he hb => hbel _ ?_⟩
          have ht := list_all_range htopo hk
          simp only [ho, Option.map_some, Option.getD_some] at ht
          have := Array.all_eq_true_iff_forall_mem.1 ht e he
          simpa [hb] using this
        intro e
        rw [e] at this
        cases this
      rw [show m + 1 + (l.toArray.size - n) = (m + (l.toArray.size - n)) + 1 by omega]
      refine ⟨fun e => absurd e hne, fun i hi => ?_⟩
      have hin := hready i hi
      obtain ⟨hu, o, ho, hall⟩ := mem_ready.1 hi
      obtain ⟨V, js, hV, hchk, hask⟩ := hO i o hin (by simpa using ho)
      simp only [Bool.and_eq_true] at hchk
      obtain ⟨hpair, hlook⟩ := hchk
      have hdst : ∀ d, o.dst = some d → d < a.tmps.size := by
        intro d hd
        have := list_all_range hdist hin
        have h2 : dstAt l.toArray i = some d := by simp only [dstAt, ho]; exact hd
        rw [h2] at this
        simp only [Bool.and_eq_true, decide_eq_true_eq] at this
        rw [inv.tsize]
        exact this.1
      have hjs : ∀ x : Nat × Tmp, x ∈ js → dstAt l.toArray x.1 = some x.2 ∧ D.getD x.1 false = true ∧ x.1 < i := by
        intro x hx
        have := List.all_eq_true.1 hpair x hx
        simp only [Bool.and_eq_true, beq_iff_eq] at this
        obtain ⟨oj, hoj, e, he, hb, hon⟩ := Region.waitsFor_spec this.2
        obtain rfl : o = oj := Option.some.inj (ho.symm.trans hoj)
        have ht := list_all_range htopo hin
        simp only [ho, Option.map_some, Option.getD_some] at ht
        have ht := Array.all_eq_true_iff_forall_mem.1 ht e he
        simp only [hb, Bool.not_true, Bool.false_or, decide_eq_true_eq] at ht
        exact ⟨this.1, by rw [← hon]; exact hall e he hb, by rw [← hon]; exact ht⟩
      have hget : ∀ x : Nat × Tmp, x ∈ js → ((Vs.take i).getD x.1 Qv.any).p vs (a.eval (.tmp x.2)) w := fun x hx => by
        obtain ⟨h1, h2, h3⟩ := hjs x hx
        have hxl : x.1 < Vs.length := by omega
        have h4 : Vs[x.1]? = some Vs[x.1] := List.getElem?_eq_getElem hxl
        have h5 := inv.known x.1 _ h2 h4
        rw [h1] at h5
        have : (Vs.take i).getD x.1 Qv.any = Vs[x.1] := by
          rw [List.getD_eq_getElem?_getD, List.getElem?_take, if_pos h3, h4]
          rfl
        rw [this]
        exact h5
      obtain ⟨hk0, hk1, hk2⟩ := inv.cls
      have hlk : ∀ t ∈ o.looksAt l.toArray, (onto a (js.map fun x => some x.2) a0).tmps[t]? = a.tmps[t]? := fun t ht => by
        refine onto_at a t _ _ inv.tsize.symm ?_
        have h1 : (o.looksAt l.toArray).all (fun t => js.any (·.2 == t) || keptB l.toArray n i t) = true := by
          simpa only [lookB, ho, Option.map_some, Option.getD_some] using hlook
        have h2 := List.all_eq_true.1 h1 t ht
        simp only [Bool.or_eq_true] at h2
        rcases h2 with h2 | h2
        · left
          obtain ⟨x, hx, hxt⟩ := List.any_eq_true.1 h2
          exact List.mem_map.2 ⟨x, hx, by rw [beq_iff_eq.1 hxt]⟩
        · right
          refine (inv.rest t fun j hj hD e => ?_).symm
          have h3 := list_all_range h2 hj
          simp only [Bool.or_eq_true, bne_iff_ne, ne_eq, beq_iff_eq] at h3
          rcases h3 with (h3 | h3) | h3
          · exact h3 e
          · obtain ⟨oj, hoj, e', he', hb', hon⟩ := Region.waitsFor_spec h3
            have := inv.head.closed j oj hoj hD e' he' hb'
            rw [hon, getD_both hu] at this
            cases this
          · subst h3
            rw [getD_both hu] at hD
            cases hD
      obtain ⟨T, hA, hS⟩ : ∃ T : Value → World → Prop, Ask' P l.toArray vs (Vs.take i) (ToldL T o.dst a0.defers) o w js a0 ∧ (∀ v w', T v w' → ∃ vs2, V.p vs2 v w' ∧ (∀ (W : Qv L) (j : Nat), D.getD j false = true → Vs[j]? = some W → ∀ {u : Value}, W.p vs u w → W.p vs2 u w') ∧ Cls L late vs2 (D.setIfInBounds i true) w') := by
        rcases hask with ⟨hnl', _, hA⟩ | ⟨q, hq, hVq, hA⟩
        · have hne : ∀ q i', late[q]? = some i' → i ≠ i' := fun q i' hq e => by
            subst e
            have := List.contains_iff_mem.2 (List.mem_of_getElem? hq)
            rw [hnl'] at this
            cases this
          exact ⟨_, hA vs w hk1, fun v w' hg => ⟨vs, hg.1, fun W j _ _ _ hp => W.st hp hg.2, hk0, L.g hk1 hg.2, fun q i' hq => by rw [getD_set_ne false (hne q i' hq)]; exact hk2 q i' hq⟩⟩
        · have hDi : D.getD i false = false := getD_both hu
          have h1 : ¬ q < vs.length := fun h => by have := (hk2 q i hq).2 h; rw [hDi] at this; cases this
          have h2 : q ≤ vs.length := by
            cases q with
            | zero => omega
            | succ q =>
              have hql : q < late.length := by have := (List.getElem?_eq_some_iff.1 hq).1; omega
              have hw := hchain q (by have := (List.getElem?_eq_some_iff.1 hq).1; omega) i hq late[q] (List.getElem?_eq_getElem hql)
              obtain ⟨oj, hoj, e, he, hb, hon⟩ := Region.waitsFor_spec hw
              obtain rfl : o = oj := Option.some.inj (ho.symm.trans hoj)
              have h3 := hall e he hb
              rw [hon] at h3
              have := (hk2 q _ (List.getElem?_eq_getElem hql)).1 h3
              omega
          obtain rfl : q = vs.length := by omega
          refine ⟨_, hA vs w rfl hk1, fun v w' hg => ⟨vs ++ [v], (by rw [hVq]; show (vs ++ [v])[vs.length]? = some v; simp), fun W j hj hW _ hp => W.sr ?_ hk1 hg.1 hp, by rw [List.length_append]; exact (List.getElem?_eq_some_iff.1 hq).1, hg.2, fun q' i' hq' => ?_⟩⟩
          · rcases hfr j W hW with ⟨_, h4⟩ | ⟨q', hq', h4⟩
            · rw [h4]; exact Nat.zero_le _
            · have := (hk2 q' j hq').1 hj
              omega
          · by_cases e : i = i'
            · subst e
              have hqq : q' = vs.length := by
                have h5 := (List.getElem?_eq_some_iff.1 hq').1
                skip
                exact (List.getElem?_inj h5 hnd).1 (hq'.trans hq.symm)
              have hlt : i < D.size := by
                rw [inv.head.size]
                exact (Array.getElem?_eq_some_iff.1 ho).1
              simp [hlt, hqq]
            · rw [getD_set_ne false e, hk2 q' i' hq']
              have : q' ≠ vs.length := fun e' => e (by rw [e', hq] at hq'; exact Option.some.inj hq')
              simp only [List.length_append, List.length_singleton]
              omega
      have hW := Ask'.all (b := a) hget hA
      have hop := toldL_op (Q := Q) (ops := l.toArray) (a0 := a0) (a := a) (Region.noSelect_spec hsel i o · · ho) hdst ((onto_size _ _ _).trans inv.tsize.symm) hlk ho (onto_defers _ _ _) hW
      refine wpOp_mono (fun a' w' hk => ?_) hop
      obtain ⟨v, ha, hT⟩ := hk
      obtain ⟨vs2, hv, hs, hcl⟩ := hS _ w' hT
      exact ih vs2 _ a' w' (linv_step inv hdist hi hin ho hV (by omega) ha hv hs hcl) (by have := (cnt_set (D := D) (i := i) n).2 hin hu; omega)
  have h0 := key n [] (Array.replicate l.toArray.size false) a0 w0 ⟨⟨by simp, (fun j oj _ hD => by rw [getD_replicate_false] at hD; cases hD), fun t _ ht => by simp only [List.size_toArray] at ht ⊢; simp [ht]⟩, ⟨Nat.zero_le _, hC0, fun q i hq => by rw [getD_replicate_false]; simp⟩, rfl, rfl, fun _ _ => rfl, (fun j V hD => by rw [getD_replicate_false] at hD; cases hD)⟩ (cnt_false _ n)
  rwa [show n + (l.toArray.size - n) = l.toArray.size by omega] at h0
/-- One operation that is carried out .. -/
theorem askl_do {T : Value → World → Prop} {ds : List Deferred} {o : Oper} {a : Act} {w : World} (hw : Region.wanted o (yielded ops a.tmps) = true)
    (h : ∀ K' : Act → World → Prop, (∀ a' w', a'.defers = ds → T (match o.dst with | some d => a'.eval (.tmp d) | none => undef) w' → K' a' w') → o.wp P a w K' (ToldL T o.dst ds)) : wpList P ops (ToldL T o.dst ds) [o] a w := by
  unfold wpList
  rw [if_pos hw]
  exact .inl (h _ fun a' w' h1 h2 => ⟨rfl, h1, h2⟩)
/-- .. or is not. -/
theorem askl_skip {T : Value → World → Prop} {ds : List Deferred} {o : Oper} {a : Act} {w : World} (hw : Region.wanted o (yielded ops a.tmps) = false) (h1 : (a.put o.dst undef).defers = ds) (h2 : T (match o.dst with | some d => (a.put o.dst undef).eval (.tmp d) | none => undef) w) : wpList P ops (ToldL T o.dst ds) [o] a w := by
  unfold wpList
  rw [if_neg (by rw [hw]; simp)]
  exact ⟨rfl, h1, h2⟩
/-- What is behind them. -/
def FinL (P : Program) (ops : Array Oper) (Q : Exit → Act → World → Prop) (vs : List Value) (w : World) : List (Qv L) → List Oper → Act → Prop
  | V :: Vs, o :: os, a => ∀ x, V.p vs x w → FinL P ops Q vs w Vs os (a.put o.dst x)
  | _, os, a => wpList P ops Q os a w
theorem FinL.cut {vs : List Value} {w : World} : ∀ {Vs : List (Qv L)} {os : List Oper} {a : Act}, Vs.length ≤ os.length → FinL P ops Q vs w Vs os a → FinL' (fun a w => wpList P ops Q (os.drop Vs.length) a w) vs w Vs (os.take Vs.length) a
  | [], os, a, _, h => by
    have h : wpList P ops Q os a w := by cases os <;> exact h
    exact h
  | V :: Vs, [], a, hl, _ => by simp at hl
  | V :: Vs, o :: os, a, hl, h => fun x hx => FinL.cut (Vs := Vs) (os := os) (by simpa using hl) (h x hx)
theorem LateR.weak {F G : List (Qv L) → Prop} : ∀ {k : Nat} {Rs : List (Qv L)} {os : List Oper}, LateR L late P ops n a0 F k Rs os → (∀ Ws, Ws.length = Rs.length + k → F Ws → G Ws) → LateR L late P ops n a0 G k Rs os
  | 0, Rs, _, h, hg => hg _ (by simp) h
  | _ + 1, _, [], h, _ => h.elim
  | k + 1, Rs, o :: os, ⟨V, js, hb, hA, hM⟩, hg => ⟨V, js, hb, hA, LateR.weak hM fun Ws hW => hg Ws (by simp at hW ⊢; omega)⟩
theorem wpAny_lateR {l : List Oper} (n : Nat) (hB : monoB l.toArray n a0.tmps.size = true) (hBl : lateB l.toArray n late = true) (hC0 : L.C [] w0)
    (h : LateR L late P l.toArray n a0 (fun Vs => ∀ vs w, vs.length = late.length → L.C vs w → FinL P l.toArray Q vs w Vs l a0) n [] l) : wpAny P .any l.toArray Q l.toArray.size (Array.replicate l.toArray.size false) a0 w0 := by
  refine wpAny_late n hB hBl hC0 (LateR.weak h fun Ws hW hF vs w hvl hw => ?_)
  have hn := (LateR.out h).1
  have hl : Ws.length = n := by simpa using hW
  have := FinL.cut (by rw [hl]; exact hn) (hF vs w hvl hw)
  rwa [hl] at this
theorem wp_region_late {l : List Oper} {id : Nat} (L : Lt) (late : List Nat) (n : Nat) (hm : P.follows .mixedOrders = true) (hB : monoB l.toArray n a0.tmps.size = true) (hBl : lateB l.toArray n late = true) (hC0 : L.C [] w0.drew)
    (h : LateR L late P l.toArray n a0 (fun Vs => ∀ vs w, vs.length = late.length → L.C vs w → FinL P l.toArray Q vs w Vs l a0) n [] l) : (Code.region id l.toArray true).wp P Q a0 w0 :=
  wp_region_any hm (wpAny_lateR n hB hBl hC0 h)
end
end Go.Proofs.YtmjdpmfcbeaecaaDoor

namespace Go.Proofs.YtmjdpmfcbeaecaaDoor
open Go Go.RowKit Go.Shelf

attribute [local go_sem] Oper.semAt_some
theorem info_i64 : (Tryd.prog.info? 2).map (fun i => (i.zero, i.size, i.bytes)) = some (some (.int .i64 0), 1, 8) := by kernel_rfl
theorem info_i64s : (Tryd.prog.info? 56).map (fun i => (i.zero, i.size, i.bytes)) = some (some (.slice none 0 0), 1, 24) := by kernel_rfl
theorem el_i64 : ElemOk Tryd.prog 56 2 1 8 := ElemOk.mk' (by decide) Tryd.underlying56 info_i64 rfl
theorem el_i64s : ElemOk Tryd.prog 57 56 1 24 := ElemOk.mk' (by decide) Tryd.underlying57 info_i64s rfl
/-- Two lists built side by side. -/
structure Side {α β : Type} (E : Enc α) (F : Enc β) (base : Nat) (e f : TypeId) (Z : Nat → Prop) (w : World) (v u : Value) (xs : List α) (ys : List β) : Prop where
  fst : Acc E base e (fun g => Z g ∧ some g ≠ u.ownBlock) w v xs
  snd : Acc F base f (fun g => Z g ∧ some g ≠ v.ownBlock) w u ys
section
variable {α β : Type} {E : Enc α} {F : Enc β} {base : Nat} {e f : TypeId} {Z : Nat → Prop} {w w' : World} {v u v' u' : Value} {xs xs' : List α} {ys ys' : List β}
theorem Side.kept (h : Side E F base e f Z w v u xs ys) (hg : w.grownBy w' none) : Side E F base e f Z w' v u xs ys := ⟨h.fst.kept hg, h.snd.kept hg⟩
theorem Side.swap (h : Side E F base e f Z w v u xs ys) : Side F E base f e Z w u v ys xs := ⟨h.snd, h.fst⟩
theorem Side.one (h : Side E F base e f Z w v u xs ys) (ha : Acc E base e (fun g => Z g ∧ some g ≠ u.ownBlock) w' v' xs') (hg : w.grownBy w' v.ownBlock) (hm : Moved w v v') : Side E F base e f Z w' v' u xs' ys := by
  refine ⟨ha, ?_⟩
  have h1 : Acc F base f (fun g => (Z g ∧ some g ≠ v'.ownBlock) ∧ some g ≠ v.ownBlock) w u ys := h.snd.more fun g hg hx => ⟨⟨hx.1, fun e => hm.ne hg (fun e' => hx.2 e'.symm) e.symm⟩, hx.2⟩
  exact (h1.keep hg fun g hx => hx.2).more fun g _ hx => hx.1
theorem Side.two (h : Side E F base e f Z w v u xs ys) (ha : Acc F base f (fun g => Z g ∧ some g ≠ v.ownBlock) w' u' ys') (hg : w.grownBy w' u.ownBlock) (hm : Moved w u u') : Side E F base e f Z w' v u' xs ys' := (h.swap.one ha hg hm).swap
theorem Side.new1 (h : Side E F base e f Z w v u xs ys) (hZ : ∀ g, w.heap.size ≤ g → Z g) : ∀ g, w.heap.size ≤ g → Z g ∧ some g ≠ u.ownBlock := fun g hg => ⟨hZ g hg, fun e => by have := (h.snd.lt g e.symm).2; omega⟩
theorem Side.new2 (h : Side E F base e f Z w v u xs ys) (hZ : ∀ g, w.heap.size ≤ g → Z g) : ∀ g, w.heap.size ≤ g → Z g ∧ some g ≠ v.ownBlock := fun g hg => ⟨hZ g hg, fun e => by have := (h.fst.lt g e.symm).2; omega⟩
end
/-- A number that is out of range. -/
def outB (p : Par) (x : Int) : Bool := decide (fixI x p.Q < wrap64 (-p.M)) || decide (fixI x p.Q > p.M)
/-- What is wrong with a model's secrets. -/
def modelE (p : Par) (l : List Int) : Int := if smallB p && decide (1 ≤ p.K ∧ 1 ≤ p.D) && (l.length : Int) == secretsI p then if l.any (outB p) then 20 else 0 else 4
def rowW (p : Par) (d : Nat) (r : List Int) : List Int := (r.take d).map fun x => fixI x p.Q
def rowB (p : Par) (d : Nat) (r : List Int) : Int := fixI (r[d]?.getD 0) p.Q
def modelW (p : Par) (l : List Int) : List (List Int) := if modelE p l = 0 then (chk (p.D + 1).toNat l p.K.toNat).map (rowW p p.D.toNat) else []
def modelB (p : Par) (l : List Int) : List Int := if modelE p l = 0 then (chk (p.D + 1).toNat l p.K.toNat).map (rowB p p.D.toNat) else []
/-- A call that told a model, and what is wrong. -/
def GivesM (Y : Nat → Prop) (w : World) (W : List (List Int)) (B : List Int) (n : Int) (e : Ending) (w' : World) : Prop := ∃ v u, e = .returned (.tuple #[.agg #[v, u], .int .i64 n]) ∧ Sl (encW encI) Y w' v W ∧ Sl encI Y w' u B ∧ (B ≠ [] → Wr Y w' u) ∧ w.grownBy w' none
theorem results_model {fn : Func} {W : World} {B4 B5 : Nat} {vW vB : Value} {n : Int} (h : fn.results = #[.cell 4 59, .cell 5 42]) (tmps : Array Value) (h4 : tmps.getD 4 undef = .pointer (some ⟨B4, 0, none⟩)) (h5 : tmps.getD 5 undef = .pointer (some ⟨B5, 0, none⟩))
    (hb4 : Bk W B4 59 #[vW, vB]) (hb5 : Bk W B5 42 #[.int .i64 n]) : (results fn tmps).run Tryd.prog W = .ok (.tuple #[.agg #[vW, vB], .int .i64 n]) W := by
  have c0 := hb5.cell 0
  simp at c0
  have r1 := run_loadVar_row (P := Tryd.prog) W B4 59 59 #[vW, vB] (0, 0) _ hb4 Tryd.underlying59 rfl (by kernel_rfl)
  have r2 : (loadVar 42 ⟨B5, 0, none⟩).run Tryd.prog W = .ok (.int .i64 n) W := by
    simp [loadVar, isAgg, Sem.run_bind, run_underlying Tryd.underlying42 W, load, go_sem]
    simp [Sem.run, c0]
  have h4' : tmps[4]?.getD undef = .pointer (some ⟨B4, 0, none⟩) := by simpa using h4
  have h5' : tmps[5]?.getD undef = .pointer (some ⟨B5, 0, none⟩) := by simpa using h5
  simp [results, h, h4', h5', asAddr, r1, r2]
theorem Side.keep {α β : Type} {E : Enc α} {F : Enc β} {base : Nat} {e f : TypeId} {Z : Nat → Prop} {w w' : World} {v u : Value} {xs : List α} {ys : List β} {row : Option Nat} (h : Side E F base e f Z w v u xs ys) (hg : w.grownBy w' row) (hZ : ∀ g, Z g → some g ≠ row) : Side E F base e f Z w' v u xs ys := ⟨h.fst.keep hg fun g hx => hZ g hx.1, h.snd.keep hg fun g hx => hZ g hx.1⟩
theorem Side.keepc {α β : Type} {E : Enc α} {F : Enc β} {base : Nat} {e f : TypeId} {Z : Nat → Prop} {w w' : World} {v u : Value} {xs : List α} {ys : List β} {row : Option Nat} (h : Side E F base e f Z w v u xs ys) (hg : w.grownBy w' row) (hr : ∀ r, row = some r → ∃ o : Obj, w.heap[r]? = some o ∧ o.isCells = false) : Side E F base e f Z w' v u xs ys := ⟨h.fst.keepc hg hr, h.snd.keepc hg hr⟩
theorem Wr.reslice {X : Nat → Prop} {w : World} {A : Option Addr} {n c n' c' : Nat} (h : Wr X w (.slice A n c)) : Wr X w (.slice A n' c') := by
  obtain ⟨g, o, _, _, e, h⟩ := h
  injection e with e1 _ _
  subst e1
  exact ⟨g, o, n', c', rfl, h⟩
theorem cellK {w w' : World} {g o : Nat} {u : Value} {row : Option Nat} (h : w.cell? ⟨g, o, none⟩ = some u) (hg : w.grownBy w' row) (hne : some g ≠ row) : w'.cell? ⟨g, o, none⟩ = some u := (World.cell?_of_block (w := w) (hg.block g (block_lt_of_cell h) hne)).trans h
/-- A slice of one thing in a block made since n. -/
def BlkQ (n : Nat) (t : TypeId) (u v : Value) (w : World) : Prop := ∃ b, v = .slice (some ⟨b, 0, none⟩) 1 1 ∧ n ≤ b ∧ Bk w b t #[u]
abbrev SideM (base : Nat) (w : World) (v u : Value) (xs : List (List Int)) (ys : List Int) : Prop := Side (encW encI) encI base 56 2 (fun g => base ≤ g) w v u xs ys
/-- Where the worlds stand while a row is put to the model. -/
def mLt (base : Nat) (W wd : World) (vW vB : Value) (g8 d : Nat) (bv : Int) (xsW : List (List Int)) (xsB : List Int) (yW : List Int) : Lt where
  C vs w := Below base W w ∧ KeepsOthers W w ∧ wd.heap.size ≤ w.heap.size ∧ base ≤ w.heap.size ∧ w.cell? ⟨g8, d, none⟩ = some (.int .i64 bv) ∧
    match vs with
    | [] => wd.grownBy w none
    | [u] => SideM base w u vB (xsW ++ [yW]) xsB
    | [u, u2] => SideM base w u u2 (xsW ++ [yW]) (xsB ++ [bv])
    | _ => False
  R q w w' := w.grownBy w' (if q = 0 then vW.ownBlock else vB.ownBlock)
  g := fun {vs w w'} h hg => by
    obtain ⟨h1, h2, h3, h4, h5, h6⟩ := h
    refine ⟨h1.grown hg h4 (by simp), h2.trans (keeps_none hg), Nat.le_trans h3 hg.size, Nat.le_trans h4 hg.size, cellK h5 hg (by simp), ?_⟩
    match vs, h6 with
    | [], h6 => exact h6.trans hg
    | [u], h6 => exact h6.kept hg
    | [u, u2], h6 => exact h6.kept hg
def blkQ {base : Nat} {W wd : World} {vW vB : Value} {g8 d : Nat} {bv : Int} {xsW : List (List Int)} {xsB : List Int} {yW : List Int} (hW : ∀ g, vW.ownBlock = some g → g < wd.heap.size) (hB : ∀ g, vB.ownBlock = some g → g < wd.heap.size) (t : TypeId) (u : Value) : Qv (mLt base W wd vW vB g8 d bv xsW xsB yW) where
  p _ v w := BlkQ wd.heap.size t u v w
  fr := 0
  st := fun ⟨b, e, hb, hk⟩ hg => ⟨b, e, hb, hk.grown hg (by simp)⟩
  sr := fun {vs _ v w w'} _ _ hR ⟨b, e, hb, hk⟩ => by
    refine ⟨b, e, hb, hk.grown hR fun e => ?_⟩
    split at e
    · have := hW b e.symm; omega
    · have := hB b e.symm; omega
section
variable {base : Nat} {W wd w' w3 : World} {vW vB u v3 : Value} {g8 d : Nat} {bv : Int} {xsW : List (List Int)} {xsB : List Int} {yW : List Int}
theorem mLt_one (hC : (mLt base W wd vW vB g8 d bv xsW xsB yW).C [] w') (hS : SideM base wd vW vB xsW xsB) (ha : Acc (encW encI) base 56 (fun g => base ≤ g ∧ some g ≠ vB.ownBlock) w3 v3 (xsW ++ [yW])) (hgr : w'.grownBy w3 vW.ownBlock) (hm : Moved w' vW v3) (h8 : some g8 ≠ vW.ownBlock) : (mLt base W wd vW vB g8 d bv xsW xsB yW).C [v3] w3 := by
  obtain ⟨h1, h2, h3, h4, h5, h6⟩ := hC
  have hS' := hS.kept h6
  exact ⟨h1.grown hgr h4 (fun k e => (hS'.fst.lt k e).1), h2.trans (hS'.fst.keeps hgr), Nat.le_trans h3 hgr.size, Nat.le_trans h4 hgr.size, cellK h5 hgr h8, hS'.one ha hgr hm⟩
theorem mLt_two (hC : (mLt base W wd vW vB g8 d bv xsW xsB yW).C [u] w') (ha : Acc encI base 2 (fun g => base ≤ g ∧ some g ≠ u.ownBlock) w3 v3 (xsB ++ [bv])) (hgr : w'.grownBy w3 vB.ownBlock) (hm : Moved w' vB v3) (h8 : some g8 ≠ vB.ownBlock) : (mLt base W wd vW vB g8 d bv xsW xsB yW).C [u, v3] w3 := by
  obtain ⟨h1, h2, h3, h4, h5, h6⟩ := hC
  have hS' : SideM base w' u vB (xsW ++ [yW]) xsB := h6
  exact ⟨h1.grown hgr h4 (fun k e => (hS'.snd.lt k e).1), h2.trans (hS'.snd.keeps hgr), Nat.le_trans h3 hgr.size, Nat.le_trans h4 hgr.size, cellK h5 hgr h8, hS'.two ha hgr hm⟩
end
/-- What stands between two rounds. -/
structure MI (p : Par) (d base B6 Ba Bb : Nat) (va : Value) (m : Nat) (w : World) (rows : List (List Int)) (W : World) : Prop where
  box : ∃ vW vB, Bk W B6 59 #[vW, vB] ∧ SideM base W vW vB (rows.map (rowW p d)) (rows.map (rowB p d))
  ok : ∀ r ∈ rows, ∀ y ∈ r, outB p y = false
  par : Bk W w.heap.size 24 p.cells
  r4 : Bk W (w.heap.size + 1) 59 #[.slice none 0 0, .slice none 0 0]
  r5 : Bk W (w.heap.size + 1 + 1) 42 #[.int .i64 0]
  bel : Below w.heap.size w W
  ba : Boxed W Ba 37 va
  bb : Boxed W Bb 3 (.int .i64 m)
structure MX (p : Par) (l : List Int) (w : World) (c : Code) (W : World) : Prop where
  ret : c = .ret
  bad : l.any (outB p) = true
  r4 : Bk W (w.heap.size + 1) 59 #[.slice none 0 0, .slice none 0 0]
  r5 : Bk W (w.heap.size + 1 + 1) 42 #[.int .i64 20]
  bel : Below w.heap.size w W
theorem bkNe {W : World} {g : Nat} {t : TypeId} {u : Value} {cs : List Value} (h : Bk W g t (u :: cs).toArray) {row : Option Nat} (hr : ∀ r, row = some r → ∃ o : Obj, W.heap[r]? = some o ∧ o.isCells = false) : some g ≠ row := cell_ne (u := u) (by have := h.cell 0; simpa using this) hr
theorem grownSet (w : World) (g o : Nat) (v : Value) : w.grownBy (w.setCell ⟨g, o, none⟩ v) (some g) := ⟨rfl, rfl, rfl, by simp [World.setCell], fun k _ hne => Below.heap_setCell w ⟨g, o, none⟩ v k (fun e => hne (by rw [e]))⟩
theorem grownSetUp {w w1 : World} (h : w.grownBy w1 none) {g : Nat} (o : Nat) (v : Value) (hg : w.heap.size ≤ g) : w.grownBy (w1.setCell ⟨g, o, none⟩ v) none := grown_up h (grownSet w1 g o v) (fun k e => by injection e with e; omega)
theorem MI.own {p : Par} {d base B6 Ba Bb : Nat} {va : Value} {m : Nat} {w : World} {rows : List (List Int)} {X Y : World} {row : Option Nat} (h : MI p d base B6 Ba Bb va m w rows X) (hg : X.grownBy Y row) (hr : ∀ r, row = some r → ∃ o : Obj, X.heap[r]? = some o ∧ o.isCells = false) (hrB : ∀ r, row = some r → w.heap.size ≤ r) : MI p d base B6 Ba Bb va m w rows Y := by
  obtain ⟨⟨vW, vB, k1, k2⟩, k3, k4, k5, k6, k7, k8, k9⟩ := h
  exact ⟨⟨vW, vB, k1.grown hg (bkNe k1 hr), k2.keepc hg hr⟩, k3, k4.grown hg (cell_ne (k4.cell 0) hr), k5.grown hg (bkNe k5 hr), k6.grown hg (bkNe k6 hr), k7.grown hg k7.size hrB, k8.kept hg (boxNe k8 hr), k9.kept hg (boxNe k9 hr)⟩
theorem MX.own {p : Par} {l : List Int} {w : World} {c : Code} {X Y : World} {row : Option Nat} (h : MX p l w c X) (hg : X.grownBy Y row) (hr : ∀ r, row = some r → ∃ o : Obj, X.heap[r]? = some o ∧ o.isCells = false) (hrB : ∀ r, row = some r → w.heap.size ≤ r) : MX p l w c Y := by
  obtain ⟨k1, k2, k5, k6, k7⟩ := h
  exact ⟨k1, k2, k5.grown hg (bkNe k5 hr), k6.grown hg (bkNe k6 hr), k7.grown hg k7.size hrB⟩
theorem gives_noM {w w' : World} {W : List (List Int)} {B : List Int} {n k : Int} (h : n = k ∧ W = [] ∧ B = []) (hg : w.grownBy w' none) : GivesM (fun g => w.heap.size ≤ g) w W B n (.returned (.tuple #[.agg #[.slice none 0 0, .slice none 0 0], .int .i64 k])) w' := by
  obtain ⟨rfl, rfl, rfl⟩ := h
  exact ⟨_, _, rfl, Sl.nil _ _ _, Sl.nil _ _ _, fun h => absurd rfl h, hg⟩
abbrev noW (w w1 : World) (n : Int) : World := ((w1.setCell ⟨w.heap.size + 1, 0, none⟩ (.slice none 0 0)).setCell ⟨w.heap.size + 1, 1, none⟩ (.slice none 0 0)).setCell ⟨w.heap.size + 1 + 1, 0, none⟩ (.int .i64 n)
theorem noW_4 {w w1 : World} {a b : Value} (h : Bk w1 (w.heap.size + 1) 59 #[a, b]) (n : Int) : Bk (noW w w1 n) (w.heap.size + 1) 59 #[.slice none 0 0, .slice none 0 0] := ((h.set 0 _).set 1 _).far (by simp) _
theorem noW_5 {w w1 : World} {a : Value} (h : Bk w1 (w.heap.size + 1 + 1) 42 #[a]) (n : Int) : Bk (noW w w1 n) (w.heap.size + 1 + 1) 42 #[.int .i64 n] := ((h.far (by simp) _).far (by simp) _).set 0 _
theorem noW_g {w w1 : World} (h : w.grownBy w1 none) (n : Int) : w.grownBy (noW w w1 n) none := grownSetUp (grownSetUp (grownSetUp h _ _ (by omega)) _ _ (by omega)) _ _ (by omega)
theorem Sl.shape {α : Type} {E : Enc α} {X : Nat → Prop} {w : World} {v : Value} {xs : List α} (h : Sl E X w v xs) : ∃ A n c, v = .slice A n c := by
  obtain ⟨A, c, e, _, _⟩ := h.form
  exact ⟨_, _, _, e⟩
theorem fixI_I64 (x q : Int) (hq : U64 q) : I64 (fixI x q) := by
  unfold fixI
  split
  · exact ⟨by decide, by decide⟩
  · cases hm : mayB q with
    | false =>
      have : addI x 0 q = 0 := by simp [addI, hm]
      rw [this]
      have h1 := hq.1
      split <;> constructor <;> omega
    | true =>
      have h1 := addI_bd x 0 q hm
      simp [mayB] at hm
      split <;> constructor <;> omega
theorem Acc.form0 {α : Type} {E : Enc α} {base : Nat} {e : TypeId} {X : Nat → Prop} {w : World} {v : Value} {xs : List α} (h : Acc E base e X w v xs) (hn : 0 < xs.length) : ∃ g c, v = .slice (some ⟨g, 0, none⟩) xs.length c ∧ base ≤ g ∧ g < w.heap.size ∧ xs.length ≤ c ∧ c ≤ 9223372036854775807 := by
  have hlt := h.lt
  obtain ⟨A, c, e0, hc1, hc2⟩ := h.sl.form
  obtain ⟨hb, css, h1, h2, h3⟩ := h
  rcases h3.2 with ⟨hv, h0⟩ | ⟨g, cap, cur, hv, _, hh, _⟩
  · omega
  · have hg := hlt g (by rw [hv]; rfl)
    rw [hv] at e0
    injection e0 with _ _ e3
    subst e3
    exact ⟨g, cap, hv, hg.1, hg.2, hc1, hc2⟩
def rowsOf {X : Nat → Prop} {w₀ : World} {l : List Int} {m : Nat} (pre : List (CK X w₀ l m)) : List (List Int) := pre.map fun x => x.1.2
theorem chk_flatten {α : Type} (m : Nat) : ∀ (k : Nat) (l : List α), 1 ≤ m → l.length = k * m → (chk m l k).flatten = l
  | 0, l, _, h => by
    have : l = [] := List.eq_nil_of_length_eq_zero (by omega)
    subst this
    rfl
  | k + 1, l, hm, h => by
    rw [chk_succ, List.flatten_append]
    have h1 : chk m l k = chk m (l.take (k * m)) k := by
      unfold chk
      refine List.map_congr_left fun j hj => ?_
      have hjk : j < k := List.mem_range.1 hj
      have h7 : (j + 1) * m ≤ k * m := Nat.mul_le_mul_right m hjk
      rw [Nat.add_mul, Nat.one_mul] at h7
      rw [List.drop_take, List.take_take]
      congr 1
      omega
    rw [Nat.add_mul, Nat.one_mul] at h
    rw [h1, chk_flatten m k (l.take (k * m)) hm (by rw [List.length_take]; omega)]
    simp only [List.flatten_cons, List.flatten_nil, List.append_nil]
    rw [List.take_of_length_le (l := l.drop (k * m)) (by rw [List.length_drop]; omega), List.take_append_drop]
set_option maxRecDepth 100000 in
set_option maxHeartbeats 4000000 in
theorem smodel_any (p : Par) (vl : Value) (l : List Int) (X : Nat → Prop) (w : World) (hp : p.ok) (hl : Sl encU X w vl l) (_hb : l.length ≤ 100000) :
    Calls Tryd.prog 27 #[p.v, vl] w (GivesM (fun g => w.heap.size ≤ g) w (modelW p l) (modelB p l) (modelE p l)) := by
  have HS1 := Lib.hid (ssmall_any p)
  have HSE := Lib.hid (ssecrets_any p)
  have HL := Lib.hid hl
  have HQ := Lib.hid hp.Q
  obtain ⟨A, c, rfl, hc1, hc2⟩ := hl.form
  clear hl
  have HB0 : Hid (Bk (((w.alloc (.cells p.cells 24)).alloc (.cells #[.slice none 0 0, .slice none 0 0] 59)).alloc (.cells #[.int .i64 0] 42)) w.heap.size 24 p.cells) := Lib.hid (((Bk.new w _ _).alloc _).alloc _)
  have HB4 : Hid (Bk (((w.alloc (.cells p.cells 24)).alloc (.cells #[.slice none 0 0, .slice none 0 0] 59)).alloc (.cells #[.int .i64 0] 42)) (w.heap.size + 1) 59 #[.slice none 0 0, .slice none 0 0]) := Lib.hid (by
    have h := (Bk.new (w.alloc (.cells p.cells 24)) 59 #[.slice none 0 0, .slice none 0 0]).alloc (.cells #[.int .i64 0] 42)
    rw [World.size_alloc] at h
    exact h)
  have HB5 : Hid (Bk (((w.alloc (.cells p.cells 24)).alloc (.cells #[.slice none 0 0, .slice none 0 0] 59)).alloc (.cells #[.int .i64 0] 42)) (w.heap.size + 1 + 1) 42 #[.int .i64 0]) := Lib.hid (by
    have h := Bk.new ((w.alloc (.cells p.cells 24)).alloc (.cells #[.slice none 0 0, .slice none 0 0] 59)) 42 #[.int .i64 0]
    rw [World.size_alloc, World.size_alloc] at h
    exact h)
  have HG0 : Hid (w.grownBy (((w.alloc (.cells p.cells 24)).alloc (.cells #[.slice none 0 0, .slice none 0 0] 59)).alloc (.cells #[.int .i64 0] 42)) none) := Lib.hid ((World.grownBy_alloc w _ none).trans grown_two)
  refine (callsIn_wide (n := 12)).1 ?_
  refine callsIn_of_wp_marks Tryd.func27 rfl trivial ?_ rfl
  simp only [Tryd.ntmps27, List.size_toArray, List.length_cons, List.length_nil, Nat.reduceAdd, Nat.reduceSub, Array.replicate_succ, Array.replicate_zero, List.push_toArray, List.append_toArray, List.nil_append, List.cons_append]
  cases b1 : smallB p with
  | false =>
    have h1 : modelE p l = 4 := by simp [modelE, b1]
    have HE : Hid (modelE p l = 4 ∧ modelW p l = [] ∧ modelB p l = []) := Lib.hid (by simp [modelW, modelB, h1])
    rw [b1] at HS1
    clear h1 b1
    generalize l.length = n at *
    refine wpIn_wide.2 ?_
    go_wp2_with fail
    refine (HS1.out _).mono ?_
    rintro e w1 ⟨rfl, hg1⟩
    have HK0 := Lib.hid (HB0.out.grown hg1 (by simp))
    have HK4 := Lib.hid (HB4.out.grown hg1 (by simp))
    have HK5 := Lib.hid (HB5.out.grown hg1 (by simp))
    have HG1 := Lib.hid (HG0.out.trans hg1)
    have hp1 := HK0.out.prule
    have c40 := HK4.out.cell 0
    have c41 := HK4.out.cell 1
    have c50 := HK5.out.cell 0
    have f4 := HK4.out.free
    have f5 := HK5.out.free
    simp at c40 c41 c50
    clear hg1
    have HK4' := Lib.hid (noW_4 HK4.out 4)
    have HK5' := Lib.hid (noW_5 HK5.out 4)
    have HG4 := Lib.hid (noW_g HG1.out 4)
    go_wp2_with fail
    exact ⟨_, results_model rfl _ rfl rfl HK4'.out HK5'.out, gives_noM HE.out HG4.out⟩
  | true =>
    rw [b1] at HS1
    by_cases h0 : 1 ≤ p.K ∧ 1 ≤ p.D
    case neg =>
      have h1 : modelE p l = 4 := by unfold modelE; rw [if_neg (by simp; omega)]
      have HE : Hid (modelE p l = 4 ∧ modelW p l = [] ∧ modelB p l = []) := Lib.hid (by simp [modelW, modelB, h1])
      have hm : decide (min p.K p.D < 1) = true := by simp; omega
      clear h1 b1 h0
      generalize l.length = n at *
      refine wpIn_wide.2 ?_
      go_wp2_with fail
      refine (HS1.out _).mono ?_
      rintro e w1 ⟨rfl, hg1⟩
      have HK0 := Lib.hid (HB0.out.grown hg1 (by simp))
      have HK4 := Lib.hid (HB4.out.grown hg1 (by simp))
      have HK5 := Lib.hid (HB5.out.grown hg1 (by simp))
      have HG1 := Lib.hid (HG0.out.trans hg1)
      have hp1 := HK0.out.prule
      have c40 := HK4.out.cell 0
      have c41 := HK4.out.cell 1
      have c50 := HK5.out.cell 0
      have f4 := HK4.out.free
      have f5 := HK5.out.free
      simp at c40 c41 c50
      clear hg1
      have HK4' := Lib.hid (noW_4 HK4.out 4)
      have HK5' := Lib.hid (noW_5 HK5.out 4)
      have HG4 := Lib.hid (noW_g HG1.out 4)
      go_wp2_with fail
      exact ⟨_, results_model rfl _ rfl rfl HK4'.out HK5'.out, gives_noM HE.out HG4.out⟩
    case pos =>
      have hm : decide (min p.K p.D < 1) = false := by simp; omega
      have hsec := smallB_secrets b1
      by_cases h2 : (l.length : Int) = secretsI p
      case neg =>
        have h1 : modelE p l = 4 := by unfold modelE; rw [if_neg (by simp [h2])]
        have HE : Hid (modelE p l = 4 ∧ modelW p l = [] ∧ modelB p l = []) := Lib.hid (by simp [modelW, modelB, h1])
        have hn : ((l.length : Int) != secretsI p) = true := by simpa using h2
        clear h1 b1 h0 h2
        generalize l.length = n at *
        generalize secretsI p = sp at *
        refine wpIn_wide.2 ?_
        go_wp2_with fail
        refine (HS1.out _).mono ?_
        rintro e w1 ⟨rfl, hg1⟩
        have HJ0 := Lib.hid (HB0.out.grown hg1 (by simp))
        have HJ4 := Lib.hid (HB4.out.grown hg1 (by simp))
        have HJ5 := Lib.hid (HB5.out.grown hg1 (by simp))
        have HJ1 := Lib.hid (HG0.out.trans hg1)
        have hp1 := HJ0.out.prule
        clear hg1
        go_wp2_with fail
        refine (HSE.out _).mono ?_
        rintro e w2 ⟨rfl, hg1⟩
        have HK0 := Lib.hid (HJ0.out.grown hg1 (by simp))
        have HK4 := Lib.hid (HJ4.out.grown hg1 (by simp))
        have HK5 := Lib.hid (HJ5.out.grown hg1 (by simp))
        have HG1 := Lib.hid (HJ1.out.trans hg1)
        clear hp1 hg1
        have hp1 := HK0.out.prule
        have c40 := HK4.out.cell 0
        have c41 := HK4.out.cell 1
        have c50 := HK5.out.cell 0
        have f4 := HK4.out.free
        have f5 := HK5.out.free
        simp at c40 c41 c50
        have HK4' := Lib.hid (noW_4 HK4.out 4)
        have HK5' := Lib.hid (noW_5 HK5.out 4)
        have HG4 := Lib.hid (noW_g HG1.out 4)
        go_wp2_with fail
        exact ⟨_, results_model rfl _ rfl rfl HK4'.out HK5'.out, gives_noM HE.out HG4.out⟩
      case pos =>
        obtain ⟨k, hk⟩ : ∃ k : Nat, k = p.K.toNat := ⟨_, rfl⟩
        obtain ⟨d, hd⟩ : ∃ d : Nat, d = p.D.toNat := ⟨_, rfl⟩
        have hsm := b1
        simp [smallB] at hsm
        have hKk : p.K = (k : Int) := by omega
        have hDd : p.D = (d : Int) := by omega
        obtain ⟨m, hmd⟩ : ∃ m : Nat, m = d + 1 := ⟨_, rfl⟩
        have hw1 : wrap64 (p.D + 1) = (m : Int) := by rw [wrap64_small (by omega)]; omega
        have hsecE : secretsI p = ((k * m : Nat) : Int) := by
          unfold secretsI
          rw [hw1, hKk, ← Int.natCast_mul]
          have h7 : k * m ≤ 2 * 5 := Nat.mul_le_mul (by omega) (by omega)
          exact wrap64_small (by omega)
        have hlen : l.length = k * m := by omega
        have HDD : Hid (p.D = (d : Int) ∧ 1 ≤ d ∧ d ≤ 4 ∧ k ≤ 2 ∧ m = d + 1) := Lib.hid (by omega)
        have HLEN := Lib.hid hlen
        have HE : Hid (modelE p l = if l.any (outB p) then 20 else 0) := Lib.hid (by unfold modelE; rw [if_pos (by simp [b1, h0, h2])])
        have HW : Hid (modelE p l = 0 → modelW p l = (chk m l k).map (rowW p d) ∧ modelB p l = (chk m l k).map (rowB p d)) := Lib.hid (fun h => by
          have e1 : (p.D + 1).toNat = m := by omega
          simp [modelW, modelB, h, ← hk, ← hd, e1])
        have HN : Hid (modelE p l = 20 → modelE p l = 20 ∧ modelW p l = [] ∧ modelB p l = []) := Lib.hid (fun h => by simp [modelW, modelB, h])
        have HLL := Lib.hid h2
        have hn : ((l.length : Int) != secretsI p) = false := by simpa using h2
        clear hk hd hsm hKk hDd hsecE hlen b1 h0 h2 hmd hsec
        obtain ⟨n, hnl⟩ : ∃ n, n = l.length := ⟨_, rfl⟩
        have HNL := Lib.hid hnl
        rw [← hnl] at hn _hb hc1 ⊢
        clear hnl
        generalize secretsI p = sp at *
        refine wpIn_wide.2 ?_
        go_wp2_with fail
        refine (HS1.out _).mono ?_
        rintro e w1 ⟨rfl, hg1⟩
        have HJ0 := Lib.hid (HB0.out.grown hg1 (by simp))
        have HJ4 := Lib.hid (HB4.out.grown hg1 (by simp))
        have HJ5 := Lib.hid (HB5.out.grown hg1 (by simp))
        have HJ1 := Lib.hid (HG0.out.trans hg1)
        have hp1 := HJ0.out.prule
        clear hg1
        go_wp2_with fail
        refine (HSE.out _).mono ?_
        rintro e w2 ⟨rfl, hg1⟩
        have HK0 := Lib.hid (HJ0.out.grown hg1 (by simp))
        have HK4 := Lib.hid (HJ4.out.grown hg1 (by simp))
        have HK5 := Lib.hid (HJ5.out.grown hg1 (by simp))
        have HG1 := Lib.hid (HJ1.out.trans hg1)
        clear hp1 hg1
        have HK0b := Lib.hid (HK0.out.alloc (.cells #[.slice none 0 0, .slice none 0 0] 59))
        have hp1 := HK0.out.prule
        have hp2 := HK0b.out.prule
        go_wp2_with fail
        refine (chunk_any _ _ _ m (by have := HDD.out; omega) _).mono ?_
        rintro e w3 ⟨rfl, rfl⟩
        have hs1 : (w2.alloc (.cells #[.slice none 0 0, .slice none 0 0] 59)).heap.size = w2.heap.size + 1 := by simp
        have hs2 : ((w2.alloc (.cells #[.slice none 0 0, .slice none 0 0] 59)).alloc (.cells #[.slice A n c] 37)).heap.size = w2.heap.size + 1 + 1 := by simp
        have b0 := (HK0b.out.alloc (.cells #[.slice A n c] 37)).alloc (.cells #[.int .i64 m] 3)
        have b4 := ((HK4.out.alloc (.cells #[.slice none 0 0, .slice none 0 0] 59)).alloc (.cells #[.slice A n c] 37)).alloc (.cells #[.int .i64 m] 3)
        have b5 := ((HK5.out.alloc (.cells #[.slice none 0 0, .slice none 0 0] 59)).alloc (.cells #[.slice A n c] 37)).alloc (.cells #[.int .i64 m] 3)
        have b6 := ((Bk.new w2 59 #[.slice none 0 0, .slice none 0 0]).alloc (.cells #[.slice A n c] 37)).alloc (.cells #[.int .i64 m] 3)
        have bA := (Boxed.new (w2.alloc (.cells #[.slice none 0 0, .slice none 0 0] 59)) 37 (.slice A n c)).alloc (.cells #[.int .i64 m] 3)
        have bB := Boxed.new ((w2.alloc (.cells #[.slice none 0 0, .slice none 0 0] 59)).alloc (.cells #[.slice A n c] 37)) 3 (.int .i64 m)
        rw [hs1] at bA
        rw [hs2] at bB
        have hBe : Below w.heap.size w (((w2.alloc (.cells #[.slice none 0 0, .slice none 0 0] 59)).alloc (.cells #[.slice A n c] 37)).alloc (.cells #[.int .i64 m] 3)) := below_grown (HG1.out.trans ((World.grownBy_alloc _ _ none).trans grown_two))
        have hsz : (((w2.alloc (.cells #[.slice none 0 0, .slice none 0 0] 59)).alloc (.cells #[.slice A n c] 37)).alloc (.cells #[.int .i64 m] 3)).heap.size = w2.heap.size + 3 := by simp
        have hlt5 : w.heap.size + 1 + 1 < w2.heap.size := HK5.out.lt
        obtain ⟨B6, hB6⟩ : ∃ B, B = w2.heap.size := ⟨_, rfl⟩
        rw [← hB6] at hlt5 b6 bA bB hsz
        obtain ⟨W0, hW0⟩ : ∃ W0, ((w2.alloc (.cells #[.slice none 0 0, .slice none 0 0] 59)).alloc (.cells #[.slice A n c] 37)).alloc (.cells #[.int .i64 m] 3) = W0 := ⟨_, rfl⟩
        go_wp2_with fail
        refine (wpIn_wide (n := 12)).1 ?_
        try rw [← hB6]
        rw [hW0] at b0 b4 b5 b6 bA bB hBe hsz
        clear hB6 hW0 hs1 hs2 HJ0 HJ4 HJ5 HJ1 HK0 HK4 HK5 HK0b HB0 HB4 HB5 hp1 hp2
        have HI0 : Hid (MI p d (B6 + 3) B6 (B6 + 1) (B6 + 1 + 1) (.slice A n c) m w [] W0) := Lib.hid ⟨⟨_, _, b6, ⟨Acc.nil _ _ _ _ _, Acc.nil _ _ _ _ _⟩⟩, by simp, b0, b4, b5, hBe, bA, bB⟩
        refine wpIn_rangeFunc_ownH rfl (by omega) (gf := 109) (lb := #[.pointer (some ⟨B6 + 1, 0, none⟩), .pointer (some ⟨B6 + 1 + 1, 0, none⟩)]) rfl trivial (enters_of Tryd.func109 (by kernel_rfl) rfl)
          (chunk_stops (12 - 1) (by omega) (B6 + 1) (B6 + 1 + 1) _ l m k (by have := HDD.out; omega) HLEN.out X w W0 hBe bA bB (by rw [HNL.out]; exact HL.out)) KpAB.trans (KpAB.b (by omega) (by omega) (by omega)) (Below.refl _ _) (fun _ => rfl)
          (fun (pre : List (CK X w l m)) W => MI p d (B6 + 3) B6 (B6 + 1) (B6 + 1 + 1) (.slice A n c) m w (rowsOf pre) W)
          (fun c _ W => MX p l w c W)
          (fun pre Xw Yw row hs hg hrow => MI.own (show MI p d (B6 + 3) B6 (B6 + 1) (B6 + 1 + 1) (.slice A n c) m w (rowsOf pre) Xw from hs) hg (fun r e => (hrow r e).2) (fun r e => by have := (hrow r e).1; omega))
          (fun cc pre Xw Yw row hs hg hrow => MX.own (show MX p l w cc Xw from hs) hg (fun r e => (hrow r e).2) (fun r e => by have := (hrow r e).1; omega))
          HI0.out
          (fun x a' _ => a' = { tmps := #[p.v, .slice A n c, .pointer (some ⟨w.heap.size, 0, none⟩), undef, .pointer (some ⟨w.heap.size + 1, 0, none⟩), .pointer (some ⟨w.heap.size + 1 + 1, 0, none⟩), .pointer (some ⟨B6, 0, none⟩), .slice x.1.1.1 m x.1.1.2, undef, undef, undef, undef, p.v, .bool true, .bool false, .bool false, .pointer (some ⟨w.heap.size, 7, none⟩), .int .i64 p.K, .pointer (some ⟨w.heap.size, 8, none⟩), .int .i64 p.D, .int .i64 (min p.K p.D), .bool false, .bool false, .bool false, .slice A n c, .int .i64 n, p.v, .int .i64 sp, .bool false, .bool false, undef, .slice A n c, .pointer (some ⟨w.heap.size, 8, none⟩), .int .i64 p.D, .int .i64 m, .func (.func 109) #[] #[.pointer (some ⟨B6 + 1, 0, none⟩), .pointer (some ⟨B6 + 1 + 1, 0, none⟩)], .slice x.1.1.1 m x.1.1.2, undef, undef, undef, undef, undef, undef, undef, undef, undef, undef, undef, undef, undef, undef, undef, undef, undef, undef, undef, undef, undef, undef, undef, undef, undef, undef, undef, undef, undef, undef, undef, undef, undef, undef, undef, undef, undef, undef, undef, undef, undef, undef, undef, undef, undef, undef, undef, undef, undef], defers := [] })
          (fun _ _ _ _ _ _ hs _ _ => hs)
          ?assign ?body ?done ?stop
        case assign =>
          rintro lo pre x W K hi hK
          gi_wp2
          exact hK _ _ (KeepsFrom.refl _ _) (KpAB.refl _ _ _ _) hi rfl
        case body =>
          rintro lo pre ⟨⟨⟨Ar, cr⟩, row⟩, hrs, hrl, hrm⟩ a' W hlo ⟨r0, hr0⟩ hI rfl hlt
          have hrs : Sl encU X w (.slice Ar m cr) row := hrs
          have hrl : row.length = m := hrl
          have hrm : ∀ y ∈ row, y ∈ l := hrm
          have HRS := Lib.hid hrs
          have HRL := Lib.hid hrl
          have HI := Lib.hid hI
          have HPLT : Hid (pre.length < k) := Lib.hid hlt
          have HBP : Hid (∀ w', W.grownBy w' none → Bk w' w.heap.size 24 p.cells) := Lib.hid (fun w' h => hI.par.grown h (by simp))
          have HGW : Hid (w.grownBy W none) := Lib.hid (grown_of_below hI.bel)
          have hm5 : m ≤ 5 := by have := HDD.out; omega
          have h1' : 1 ≤ 12 - 1 - 1 := by omega
          have HRMM := Lib.hid hrm
          have HRM : Hid (∀ j (h : j < row.length), outB p row[j] = true → l.any (outB p) = true) := Lib.hid (fun j h hb => List.any_eq_true.2 ⟨_, hrm _ (List.getElem_mem h), hb⟩)
          clear hrs hrl hrm hI hlt
          gi_wp2
          gi_loopw [8, 39] (fun s8 s39 wx => ∃ j : Nat, j ≤ m ∧ s39 = .int .i64 j ∧ Hid (Acc encI W.heap.size 2 (fun g => W.heap.size ≤ g) wx s8 ((row.take j).map fun x => fixI x p.Q) ∧ W.grownBy wx none ∧ ∀ y ∈ row.take j, outB p y = false)) (fun _ s39 _ => m - (intOf s39).toNat)
          case atStart => exact ⟨0, by omega, rfl, Lib.hid ⟨Acc.nil _ _ _ _ _, World.grownBy.refl _ none, by simp⟩⟩
          case round =>
            obtain ⟨j, hj, rfl, HX⟩ := hrel
            by_cases hlt2 : j < m
            · have hjI : (j : Int) < (m : Int) := by omega
              have hjr : j < row.length := by rw [HRL.out]; exact hlt2
              obtain ⟨hacc, hg, hok⟩ := HX.out
              obtain ⟨g, o, c', e, _, _, hcu, hux⟩ := (HRS.out.kept (HGW.out.trans hg)).atU hjr
              rw [HRL.out] at e
              injection e with e1 e2 e3
              subst e1 e3
              have HBR := Lib.hid (HBP.out wr hg)
              have hpr := HBR.out.prule
              have HBAD := Lib.hid (HRM.out j hjr)
              have HSN : Hid (((row.take (j + 1)).map fun x => fixI x p.Q) = ((row.take j).map fun x => fixI x p.Q) ++ [fixI row[j] p.Q]) := Lib.hid (by rw [List.take_succ_eq_append_getElem hjr, List.map_append]; rfl)
              have HOKN : Hid (outB p row[j] = false → ∀ y ∈ row.take (j + 1), outB p y = false) := Lib.hid (fun hb y hy => by
                rw [List.take_succ_eq_append_getElem hjr] at hy
                rcases List.mem_append.1 hy with hy | hy
                · exact hok y hy
                · rw [List.mem_singleton.1 hy]; exact hb)
              have HFI := Lib.hid (fixInt_any row[j] p.Q wr hux HQ.out)
              have HAC := Lib.hid hacc
              have HG := Lib.hid hg
              have HLB : Hid ((((row.take j).map fun x => fixI x p.Q).length + 1) * 8 ≤ 140737488355328) := Lib.hid (by rw [List.length_map, List.length_take]; omega)
              have HFB : Hid (I64 (fixI row[j] p.Q)) := Lib.hid (fixI_I64 _ _ HQ.out)
              obtain ⟨ob, hob⟩ : ∃ b, b = outB p row[j] := ⟨_, rfl⟩
              rw [← hob] at HBAD HOKN
              have HOB : Hid (ob = (decide (fixI row[j] p.Q < wrap64 (-p.M)) || decide (fixI row[j] p.Q > p.M))) := Lib.hid hob
              obtain ⟨y, hy⟩ : ∃ y, y = fixI row[j] p.Q := ⟨_, rfl⟩
              rw [← hy] at HSN HFI HFB HOB
              clear hacc hg hok hux HX hob hy
              generalize row[j] = x at *
              by_cases q1 : y < wrap64 (-p.M)
              · have HBT : Hid (l.any (outB p) = true) := Lib.hid (HBAD.out (by rw [HOB.out]; simp [q1]))
                have e1 : decide (y < wrap64 (-p.M)) = true := by simpa using q1
                clear q1
                gi_wp2_with (refine ⟨trivial, ?_⟩; gi_at_call 84; refine (CallsIn.inRound lo (callsIn_wide.2 HFI.out)).mono ?_; rintro e w3 ⟨rfl, hg3⟩; have HG3 := Lib.hid (HG.out.trans hg3); have HB3 := Lib.hid (HBP.out w3 HG3.out); have hp3 := HB3.out.prule; have HAC3 := Lib.hid (HAC.out.kept hg3); have HK4 := Lib.hid (HI.out.r4.grown HG3.out (by simp)); have HK5 := Lib.hid (HI.out.r5.grown HG3.out (by simp)); have c40 := HK4.out.cell 0; have c41 := HK4.out.cell 1; have c50 := HK5.out.cell 0; have f4 := HK4.out.free; have f5 := HK5.out.free; simp at c40 c41 c50; clear hg3)
                exact ⟨((keeps_none HG3.out).trans ((KeepsOthers.setCell _ _ _).trans ((KeepsOthers.setCell _ _ _).trans (KeepsOthers.setCell _ _ _)))).from _, ⟨rfl, HBT.out, noW_4 HK4.out 20, noW_5 HK5.out 20, below_grown (noW_g (HGW.out.trans HG3.out) 20)⟩⟩
              · have e1 : decide (y < wrap64 (-p.M)) = false := by simpa using q1
                by_cases q2 : y > p.M
                · have HBT : Hid (l.any (outB p) = true) := Lib.hid (HBAD.out (by rw [HOB.out]; simp [q2]))
                  have e2 : decide (y > p.M) = true := by simpa using q2
                  clear q1 q2
                  gi_wp2_with (refine ⟨trivial, ?_⟩; gi_at_call 84; refine (CallsIn.inRound lo (callsIn_wide.2 HFI.out)).mono ?_; rintro e w3 ⟨rfl, hg3⟩; have HG3 := Lib.hid (HG.out.trans hg3); have HB3 := Lib.hid (HBP.out w3 HG3.out); have hp3 := HB3.out.prule; have HAC3 := Lib.hid (HAC.out.kept hg3); have HK4 := Lib.hid (HI.out.r4.grown HG3.out (by simp)); have HK5 := Lib.hid (HI.out.r5.grown HG3.out (by simp)); have c40 := HK4.out.cell 0; have c41 := HK4.out.cell 1; have c50 := HK5.out.cell 0; have f4 := HK4.out.free; have f5 := HK5.out.free; simp at c40 c41 c50; clear hg3)
                  exact ⟨((keeps_none HG3.out).trans ((KeepsOthers.setCell _ _ _).trans ((KeepsOthers.setCell _ _ _).trans (KeepsOthers.setCell _ _ _)))).from _, ⟨rfl, HBT.out, noW_4 HK4.out 20, noW_5 HK5.out 20, below_grown (noW_g (HGW.out.trans HG3.out) 20)⟩⟩
                · have HOK := Lib.hid (HOKN.out (by rw [HOB.out]; simp [q1, q2]))
                  have e2 : decide (y > p.M) = false := by simpa using q2
                  clear q1 q2
                  gi_wp2_with (first
                    | (refine ⟨trivial, ?_⟩; gi_at_call 84; refine (CallsIn.inRound lo (callsIn_wide.2 HFI.out)).mono ?_; rintro e w3 ⟨rfl, hg3⟩; have HG3 := Lib.hid (HG.out.trans hg3); have HB3 := Lib.hid (HBP.out w3 HG3.out); have hp3 := HB3.out.prule; have HAC3 := Lib.hid (HAC.out.kept hg3); have HK4 := Lib.hid (HI.out.r4.grown HG3.out (by simp)); have HK5 := Lib.hid (HI.out.r5.grown HG3.out (by simp)); have c40 := HK4.out.cell 0; have c41 := HK4.out.cell 1; have c50 := HK5.out.cell 0; have f4 := HK4.out.free; have f5 := HK5.out.free; simp at c40 c41 c50; clear hg3)
                    | (gi_at_builtin; refine wpListIn_push rfl (.tmp 59) (.tmp 61) rfl (E := encI) (y := y) el_i64 HAC3.out rfl rfl ⟨rfl, HFB.out⟩ HLB.out HG3.out.size (fun g hg => Nat.le_trans HG3.out.size hg) ?_; intro v4 w4 ha hgr hmv; have HFIN := Lib.hid (show Acc encI W.heap.size 2 (fun g => W.heap.size ≤ g) w4 v4 ((row.take (j + 1)).map fun x => fixI x p.Q) ∧ W.grownBy w4 none from ⟨by rw [HSN.out]; exact ha, grown_up HG3.out hgr (fun g he => (HAC3.out.lt g he).1)⟩); clear ha hgr hmv))
                  exact ⟨⟨j + 1, by omega, by go_num, Lib.hid ⟨HFIN.out.1, HFIN.out.2, HOK.out⟩⟩, by simp [intOf]; omega⟩
            · obtain rfl : m = j := by omega
              obtain ⟨hacc, hg, hok⟩ := HX.out
              rw [List.take_of_length_le (by rw [HRL.out]; exact Nat.le_refl _)] at hacc hok
              obtain ⟨⟨vW, vB, k1, k2⟩, k3, k4, k5, k6, k7, k8, k9⟩ := HI.out
              obtain ⟨AW, nW, cW, rfl⟩ := k2.fst.sl.shape
              obtain ⟨AB, nB, cB, rfl⟩ := k2.snd.sl.shape
              have hdm : d < m := by have := HDD.out; omega
              have hpos : 0 < (row.map fun x => fixI x p.Q).length := by rw [List.length_map, HRL.out]; omega
              obtain ⟨g8, c8, e8, hg8a, hg8b, hm8, hc8⟩ := hacc.form0 hpos
              rw [List.length_map, HRL.out] at e8 hm8
              subst e8
              have hgd : W.grownBy wr.drew none := hg.trans (grown_drewN' wr 1)
              have hdr : d < row.length := by rw [HRL.out]; exact hdm
              obtain ⟨bv, hbv⟩ : ∃ b, b = rowB p d row := ⟨_, rfl⟩
              have hbv2 : bv = fixI row[d] p.Q := by rw [hbv, rowB, List.getElem?_eq_getElem hdr]; rfl
              obtain ⟨g, o, c', e, _, _, hcd, hib⟩ := (hacc.kept (grown_drewN' wr 1)).sl.atI (k := d) (by rw [List.length_map]; exact hdr)
              rw [List.length_map, HRL.out] at e
              injection e with e1 e2 e3
              injection e1 with e1
              injection e1 with e1 e4
              subst e1 e4
              clear e2 e3
              rw [List.getElem_map, ← hbv2, Nat.zero_add] at hcd
              rw [List.getElem_map, ← hbv2] at hib
              have HBV := Lib.hid hib
              have HSd := Lib.hid (k2.kept hgd)
              have hltW : ∀ g, (Value.slice AW nW cW).ownBlock = some g → g < W.heap.size := fun g e => (k2.fst.lt g e).2
              have hltB : ∀ g, (Value.slice AB nB cB).ownBlock = some g → g < W.heap.size := fun g e => (k2.snd.lt g e).2
              have HWL : Hid (∀ g, (Value.slice AW nW cW).ownBlock = some g → g < wr.drew.heap.size) := Lib.hid (fun g e => (HSd.out.fst.lt g e).2)
              have HBL : Hid (∀ g, (Value.slice AB nB cB).ownBlock = some g → g < wr.drew.heap.size) := Lib.hid (fun g e => (HSd.out.snd.lt g e).2)
              have HN8 : Hid (some g8 ≠ (Value.slice AW nW cW).ownBlock ∧ some g8 ≠ (Value.slice AB nB cB).ownBlock) := Lib.hid ⟨fun e => by have := hltW g8 e.symm; omega, fun e => by have := hltB g8 e.symm; omega⟩
              have HREP : Hid ((encW encI).rep (fun g => (B6 + 3 ≤ g ∧ some g ≠ (Value.slice AB nB cB).ownBlock) ∧ some g ≠ (Value.slice AW nW cW).ownBlock) wr.drew [.slice (some ⟨g8, 0, none⟩) d d] (rowW p d row)) := Lib.hid (by
                have hs := ((hacc.kept (grown_drewN' wr 1)).sl.take d (by rw [List.length_map]; omega)).cap d (Nat.le_refl _) (by omega)
                rw [← List.map_take] at hs
                have hw := (((hacc.kept (grown_drewN' wr 1)).wr hpos).reslice (n' := d) (c' := d))
                have hX : ∀ g, W.heap.size ≤ g → (B6 + 3 ≤ g ∧ some g ≠ (Value.slice AB nB cB).ownBlock) ∧ some g ≠ (Value.slice AW nW cW).ownBlock := fun g h => ⟨⟨by have := k9.lt; omega, fun e => by have := hltB g e.symm; omega⟩, fun e => by have := hltW g e.symm; omega⟩
                exact ⟨_, rfl, hs.more fun g _ h => hX g h, hw.more fun g _ h => hX g h⟩)
              have hbase : B6 + 3 ≤ W.heap.size := by have := k9.lt; omega
              have HLD : Hid (∀ vs w', (mLt (B6 + 3) W wr.drew (.slice AW nW cW) (.slice AB nB cB) g8 d bv ((rowsOf pre).map (rowW p d)) ((rowsOf pre).map (rowB p d)) (rowW p d row)).C vs w' → w'.cell? ⟨B6, 0, none⟩ = some (.slice AW nW cW) ∧ w'.cell? ⟨B6, 1, none⟩ = some (.slice AB nB cB) ∧ w'.cell? ⟨w.heap.size, 8, none⟩ = some (.int .i64 (d : Int)) ∧ w'.cell? ⟨g8, d, none⟩ = some (.int .i64 bv)) := Lib.hid (fun vs w' h => by
                refine ⟨(h.1.cell (p := ⟨B6, 0, none⟩) (by show B6 < B6 + 3; omega)).trans (by have := k1.cell 0; simpa using this), (h.1.cell (p := ⟨B6, 1, none⟩) (by show B6 < B6 + 3; omega)).trans (by have := k1.cell 1; simpa using this), (h.1.cell (p := ⟨w.heap.size, 8, none⟩) (by show w.heap.size < B6 + 3; omega)).trans ?_, h.2.2.2.2.1⟩
                have := k4.cell 8
                rw [← HDD.out.1]
                simpa using this)
              have HSZ : Hid (∀ vs w', (mLt (B6 + 3) W wr.drew (.slice AW nW cW) (.slice AB nB cB) g8 d bv ((rowsOf pre).map (rowW p d)) ((rowsOf pre).map (rowB p d)) (rowW p d row)).C vs w' → wr.drew.heap.size ≤ w'.heap.size) := Lib.hid (fun vs w' h => h.2.2.1)
              have HLBW : Hid ((((rowsOf pre).map (rowW p d)).length + 1) * 24 ≤ 140737488355328) := Lib.hid (by have := HPLT.out; have := HDD.out; simp [rowsOf]; omega)
              have HLBB : Hid ((((rowsOf pre).map (rowB p d)).length + 1) * 8 ≤ 140737488355328) := Lib.hid (by have := HPLT.out; have := HDD.out; simp [rowsOf]; omega)
              have HC0 : Hid ((mLt (B6 + 3) W wr.drew (.slice AW nW cW) (.slice AB nB cB) g8 d bv ((rowsOf pre).map (rowW p d)) ((rowsOf pre).map (rowB p d)) (rowW p d row)).C [] wr.drew) := Lib.hid ⟨(Below.refl _ W).grown hgd hbase (by simp), keeps_none hgd, Nat.le_refl _, Nat.le_trans hbase hgd.size, hcd, World.grownBy.refl _ none⟩
              have HRN : Hid (rowsOf (pre ++ [(⟨((Ar, cr), row), HRS.out, HRL.out, HRMM.out⟩ : CK X w l m)]) = rowsOf pre ++ [row]) := Lib.hid (by simp [rowsOf])
              have HFR : Hid (∀ w5 u u2, (mLt (B6 + 3) W wr.drew (.slice AW nW cW) (.slice AB nB cB) g8 d bv ((rowsOf pre).map (rowW p d)) ((rowsOf pre).map (rowB p d)) (rowW p d row)).C [u, u2] w5 → Bk w5 B6 59 #[.slice AW nW cW, .slice AB nB cB] ∧ (KeepsFrom W0.heap.size W ((w5.setCell ⟨B6, 0, none⟩ u).setCell ⟨B6, 1, none⟩ u2) ∧ KpAB w.heap.size (B6 + 1) (B6 + 1 + 1) W ((w5.setCell ⟨B6, 0, none⟩ u).setCell ⟨B6, 1, none⟩ u2) ∧ MI p d (B6 + 3) B6 (B6 + 1) (B6 + 1 + 1) (.slice A n c) m w (rowsOf pre ++ [row]) ((w5.setCell ⟨B6, 0, none⟩ u).setCell ⟨B6, 1, none⟩ u2))) := Lib.hid (fun w5 u u2 hC => by
                have hB : ∀ b, b < B6 + 3 → w5.heap[b]? = W.heap[b]? := fun b hb => hC.1.block b hb
                have h6 : Bk w5 B6 59 #[.slice AW nW cW, .slice AB nB cB] := (hB B6 (by omega)).trans k1
                have hfar : ∀ b, b < B6 + 3 → b ≠ B6 → ((w5.setCell ⟨B6, 0, none⟩ u).setCell ⟨B6, 1, none⟩ u2).heap[b]? = W.heap[b]? := fun b hb hne => by
                  rw [Below.heap_setCell _ _ _ _ hne, Below.heap_setCell _ _ _ _ hne]
                  exact hB b hb
                have hS : SideM (B6 + 3) w5 u u2 _ _ := hC.2.2.2.2.2
                have hbel : Below w.heap.size W ((w5.setCell ⟨B6, 0, none⟩ u).setCell ⟨B6, 1, none⟩ u2) := ((hC.1.mono (by omega)).setCell (p := ⟨B6, 0, none⟩) (by show w.heap.size ≤ B6; omega) _).setCell (p := ⟨B6, 1, none⟩) (by show w.heap.size ≤ B6; omega) _
                refine ⟨h6, (hC.2.1.trans ((KeepsOthers.setCell _ _ _).trans (KeepsOthers.setCell _ _ _))).from _, ⟨hbel, hfar _ (by omega) (by omega), hfar _ (by omega) (by omega)⟩, ⟨⟨u, u2, (h6.set 0 u).set 1 u2, ?_⟩, ?_, (hfar _ (by omega) (by omega)).trans k4, (hfar _ (by omega) (by omega)).trans k5, (hfar _ (by omega) (by omega)).trans k6, k7.trans hbel, (hfar _ (by omega) (by omega)).trans k8, (hfar _ (by omega) (by omega)).trans k9⟩⟩
                · rw [List.map_append, List.map_append, List.map_singleton, List.map_singleton, ← hbv]
                  exact (hS.keep (grownSet _ _ _ _) (fun g hg e => by injection e with e; omega)).keep (grownSet _ _ _ _) (fun g hg e => by injection e with e; omega)
                · intro r hr
                  rcases List.mem_append.1 hr with hr | hr
                  · exact k3 r hr
                  · rw [List.mem_singleton.1 hr]; exact hok)
              have hdI : (d : Int) ≤ (c8 : Int) := by omega
              have hdN : d ≤ c8 := by omega
              have hdmI : (d : Int) < (m : Int) := by omega
              have hd0 : (0 : Int) ≤ (d : Int) := by omega
              clear hacc hg hok k1 k2 k3 k4 k5 k6 k7 k8 k9 hcd hib hbv hbv2 hltW hltB hgd hdr hpos HX HI
              gi_wp2
              refine wpIn_round_any (R := fun _ w' => KeepsFrom W0.heap.size W w' ∧ KpAB w.heap.size (B6 + 1) (B6 + 1 + 1) W w' ∧ MI p d (B6 + 3) B6 (B6 + 1) (B6 + 1 + 1) (.slice A n c) m w (rowsOf pre ++ [row]) w') (by kernel_rfl) (by kernel_rfl) (fun a w' h => ?_) ?_
              · rw [← HRN.out] at h
                exact h
              refine wpAny_lateR (L := mLt (B6 + 3) W wr.drew (.slice AW nW cW) (.slice AB nB cB) g8 d bv ((rowsOf pre).map (rowW p d)) ((rowsOf pre).map (rowB p d)) (rowW p d row)) (late := [9, 18]) 20 (by kernel_rfl) (by kernel_rfl) HC0.out ?_
              -- op 0 (slot 64): fieldAddr
              refine LateR.mono (Qv.eq (.pointer (some ⟨B6, 0, none⟩))) [] (by kernel_rfl) (by rfl) rfl (fun vs w' hC => ?_) ?_
              · refine askl_do rfl fun K hK => ?_
                go_simp
                exact hK _ _ rfl ⟨rfl, World.grownBy.refl _ none⟩
              -- op 1 (slot 65): load
              refine LateR.mono (Qv.eq (.slice AW nW cW)) [(0, 64)] (by kernel_rfl) (by rfl) rfl (fun vs w' hC => ?_) ?_
              · rintro _ rfl
                refine askl_do rfl fun K hK => ?_
                obtain ⟨q0, q1, hD8, hg8⟩ := HLD.out vs w' hC
                go_simp
                exact hK _ _ rfl ⟨rfl, World.grownBy.refl _ none⟩
              -- op 2 (slot 66): move
              refine LateR.mono (Qv.eq (.slice (some ⟨g8, 0, none⟩) m c8)) [] (by kernel_rfl) (by rfl) rfl (fun vs w' hC => ?_) ?_
              · refine askl_do rfl fun K hK => ?_
                go_simp
                exact hK _ _ rfl ⟨rfl, World.grownBy.refl _ none⟩
              -- op 3 (slot 67): fieldAddr
              refine LateR.mono (Qv.eq (.pointer (some ⟨w.heap.size, 8, none⟩))) [] (by kernel_rfl) (by rfl) rfl (fun vs w' hC => ?_) ?_
              · refine askl_do rfl fun K hK => ?_
                go_simp
                exact hK _ _ rfl ⟨rfl, World.grownBy.refl _ none⟩
              -- op 4 (slot 68): load
              refine LateR.mono (Qv.eq (.int .i64 (d : Int))) [(3, 67)] (by kernel_rfl) (by rfl) rfl (fun vs w' hC => ?_) ?_
              · rintro _ rfl
                refine askl_do rfl fun K hK => ?_
                obtain ⟨q0, q1, hD8, hg8⟩ := HLD.out vs w' hC
                go_simp
                exact hK _ _ rfl ⟨rfl, World.grownBy.refl _ none⟩
              -- op 5 (slot 69): fieldAddr
              refine LateR.mono (Qv.eq (.pointer (some ⟨w.heap.size, 8, none⟩))) [] (by kernel_rfl) (by rfl) rfl (fun vs w' hC => ?_) ?_
              · refine askl_do rfl fun K hK => ?_
                go_simp
                exact hK _ _ rfl ⟨rfl, World.grownBy.refl _ none⟩
              -- op 6 (slot 70): load
              refine LateR.mono (Qv.eq (.int .i64 (d : Int))) [(5, 69)] (by kernel_rfl) (by rfl) rfl (fun vs w' hC => ?_) ?_
              · rintro _ rfl
                refine askl_do rfl fun K hK => ?_
                obtain ⟨q0, q1, hD8, hg8⟩ := HLD.out vs w' hC
                go_simp
                exact hK _ _ rfl ⟨rfl, World.grownBy.refl _ none⟩
              -- op 7 (slot 71): slice
              refine LateR.mono (Qv.eq (.slice (some ⟨g8, 0, none⟩) d d)) [(2, 66), (4, 68), (6, 70)] (by kernel_rfl) (by rfl) rfl (fun vs w' hC => ?_) ?_
              · rintro _ rfl
                rintro _ rfl
                rintro _ rfl
                refine askl_do rfl fun K hK => ?_
                go_simp
                exact hK _ _ rfl ⟨rfl, World.grownBy.refl _ none⟩
              -- op 8 (slot 72): buildSlice
              refine LateR.mono (blkQ HWL.out HBL.out 56 (.slice (some ⟨g8, 0, none⟩) d d)) [(7, 71)] (by kernel_rfl) (by rfl) rfl (fun vs w' hC => ?_) ?_
              · rintro _ rfl
                refine askl_do rfl fun K hK => ?_
                have hsz := HSZ.out vs w' hC
                go_simp
                exact hK _ _ rfl ⟨⟨_, rfl, hsz, Bk.new w' _ _⟩, World.grownBy_alloc w' _ none⟩
              -- op 9 (slot 73): call
              refine LateR.turn 0 [(1, 65), (8, 72)] (by kernel_rfl) rfl (fun vs w' hl hC => ?_) ?_
              · rintro _ rfl
                intro x72 h72
                have h72 : BlkQ wr.drew.heap.size 56 (.slice (some ⟨g8, 0, none⟩) d d) x72 w' := h72
                obtain ⟨b72, e72, hb72, hk72⟩ := h72
                subst e72
                refine askl_do rfl fun K hK => ?_
                obtain rfl : vs = [] := List.eq_nil_of_length_eq_zero hl
                refine pushAt_core (E := encW encI) el_i64s (HSd.out.kept hC.2.2.2.2.2).fst ((encW encI).keep HREP.out hC.2.2.2.2.2 (by simp)) (Bk.one hk72) HLBW.out hC.2.2.2.1 ((HSd.out.kept hC.2.2.2.2.2).new1 (fun g hg => Nat.le_trans hC.2.2.2.1 hg)) (.tmp 65) (.tmp 72) rfl rfl rfl ?_
                intro v3 w3 ha hgr hm
                exact hK _ _ rfl ⟨hgr, mLt_one hC HSd.out ha hgr hm HN8.out.1⟩
              -- op 10 (slot 74): fieldAddr
              refine LateR.mono (Qv.eq (.pointer (some ⟨B6, 1, none⟩))) [] (by kernel_rfl) (by rfl) rfl (fun vs w' hC => ?_) ?_
              · refine askl_do rfl fun K hK => ?_
                go_simp
                exact hK _ _ rfl ⟨rfl, World.grownBy.refl _ none⟩
              -- op 11 (slot 75): load
              refine LateR.mono (Qv.eq (.slice AB nB cB)) [(10, 74)] (by kernel_rfl) (by rfl) rfl (fun vs w' hC => ?_) ?_
              · rintro _ rfl
                refine askl_do rfl fun K hK => ?_
                obtain ⟨q0, q1, hD8, hg8⟩ := HLD.out vs w' hC
                go_simp
                exact hK _ _ rfl ⟨rfl, World.grownBy.refl _ none⟩
              -- op 12 (slot 76): move
              refine LateR.mono (Qv.eq (.slice (some ⟨g8, 0, none⟩) m c8)) [] (by kernel_rfl) (by rfl) rfl (fun vs w' hC => ?_) ?_
              · refine askl_do rfl fun K hK => ?_
                go_simp
                exact hK _ _ rfl ⟨rfl, World.grownBy.refl _ none⟩
              -- op 13 (slot 77): fieldAddr
              refine LateR.mono (Qv.eq (.pointer (some ⟨w.heap.size, 8, none⟩))) [] (by kernel_rfl) (by rfl) rfl (fun vs w' hC => ?_) ?_
              · refine askl_do rfl fun K hK => ?_
                go_simp
                exact hK _ _ rfl ⟨rfl, World.grownBy.refl _ none⟩
              -- op 14 (slot 78): load
              refine LateR.mono (Qv.eq (.int .i64 (d : Int))) [(13, 77)] (by kernel_rfl) (by rfl) rfl (fun vs w' hC => ?_) ?_
              · rintro _ rfl
                refine askl_do rfl fun K hK => ?_
                obtain ⟨q0, q1, hD8, hg8⟩ := HLD.out vs w' hC
                go_simp
                exact hK _ _ rfl ⟨rfl, World.grownBy.refl _ none⟩
              -- op 15 (slot 79): indexAddr
              refine LateR.mono (Qv.eq (.pointer (some ⟨g8, d, none⟩))) [(12, 76), (14, 78)] (by kernel_rfl) (by rfl) rfl (fun vs w' hC => ?_) ?_
              · rintro _ rfl
                rintro _ rfl
                refine askl_do rfl fun K hK => ?_
                go_simp
                exact hK _ _ rfl ⟨rfl, World.grownBy.refl _ none⟩
              -- op 16 (slot 80): load
              refine LateR.mono (Qv.eq (.int .i64 bv)) [(15, 79)] (by kernel_rfl) (by rfl) rfl (fun vs w' hC => ?_) ?_
              · rintro _ rfl
                refine askl_do rfl fun K hK => ?_
                obtain ⟨q0, q1, hD8, hg8⟩ := HLD.out vs w' hC
                go_simp
                exact hK _ _ rfl ⟨rfl, World.grownBy.refl _ none⟩
              -- op 17 (slot 81): buildSlice
              refine LateR.mono (blkQ HWL.out HBL.out 2 (.int .i64 bv)) [(16, 80)] (by kernel_rfl) (by rfl) rfl (fun vs w' hC => ?_) ?_
              · rintro _ rfl
                refine askl_do rfl fun K hK => ?_
                have hsz := HSZ.out vs w' hC
                go_simp
                exact hK _ _ rfl ⟨⟨_, rfl, hsz, Bk.new w' _ _⟩, World.grownBy_alloc w' _ none⟩
              -- op 18 (slot 82): call
              refine LateR.turn 1 [(11, 75), (17, 81)] (by kernel_rfl) rfl (fun vs w' hl hC => ?_) ?_
              · rintro _ rfl
                intro x81 h81
                have h81 : BlkQ wr.drew.heap.size 2 (.int .i64 bv) x81 w' := h81
                obtain ⟨b81, e81, hb81, hk81⟩ := h81
                subst e81
                refine askl_do rfl fun K hK => ?_
                obtain ⟨u, rfl⟩ : ∃ u, vs = [u] := List.length_eq_one_iff.1 hl
                have hS1 : SideM (B6 + 3) w' u (.slice AB nB cB) _ _ := hC.2.2.2.2.2
                refine pushAt_core (E := encI) el_i64 hS1.snd ⟨rfl, HBV.out⟩ (Bk.one hk81) HLBB.out hC.2.2.2.1 (hS1.new2 (fun g hg => Nat.le_trans hC.2.2.2.1 hg)) (.tmp 75) (.tmp 81) rfl rfl rfl ?_
                intro v3 w3 ha hgr hm
                exact hK _ _ rfl ⟨hgr, mLt_two hC ha hgr hm HN8.out.2⟩
              -- op 19 (slot 83): fieldAddr
              refine LateR.mono (Qv.eq (.pointer (some ⟨B6, 0, none⟩))) [] (by kernel_rfl) (by rfl) rfl (fun vs w' hC => ?_) ?_
              · refine askl_do rfl fun K hK => ?_
                go_simp
                exact hK _ _ rfl ⟨rfl, World.grownBy.refl _ none⟩
              intro vs w5 hvl hC5
              obtain ⟨u, u2, rfl⟩ : ∃ u u2, vs = [u, u2] := by
                match vs, hvl with
                | [u, u2], _ => exact ⟨u, u2, rfl⟩
              intro y0 k0 y1 k1 y2 k2 y3 k3 y4 k4 y5 k5 y6 k6 y7 k7 y8 k8 y9 k9 y10 k10 y11 k11 y12 k12 y13 k13 y14 k14 y15 k15 y16 k16 y17 k17 y18 k18 y19 k19
              show wpList Tryd.prog _ _ _ _ w5
              simp only [Act.put, List.setIfInBounds_toArray, List.set_cons_zero, List.set_cons_succ]
              have e9 : y9 = u := by have : some u = some y9 := k9; injection this with this; exact this.symm
              have e18 : y18 = u2 := by have : some u2 = some y18 := k18; injection this with this; exact this.symm
              have e19 : y19 = .pointer (some ⟨B6, 0, none⟩) := k19
              subst e9 e18 e19
              obtain ⟨h6, HR⟩ := HFR.out w5 y9 y18 hC5
              have hS5 : SideM (B6 + 3) w5 y9 y18 _ _ := hC5.2.2.2.2.2
              obtain ⟨Au, nu, cu, rfl⟩ := hS5.fst.sl.shape
              obtain ⟨Av, nv, cv, rfl⟩ := hS5.snd.sl.shape
              have HRR := Lib.hid HR
              have c60 := h6.cell 0
              have c61 := h6.cell 1
              have f6 := h6.free
              simp at c60 c61
              clear HR h6 hS5 hC5 k0 k1 k2 k3 k4 k5 k6 k7 k8 k9 k10 k11 k12 k13 k14 k15 k16 k17 k18 k19 HLD HSZ HFR HC0
              go_wp2_with fail
              exact ⟨rfl, HRR.out⟩
        case done =>
          rintro D xs W hD hxs hI hK
          have hxs : rowsOf xs = chk m l k := hxs
          rw [hxs] at hI
          obtain ⟨⟨vW, vB, k1, k2⟩, k3, k4, k5, k6, k7, k8, k9⟩ := hI
          obtain ⟨AW, nW, cW, rfl⟩ := k2.fst.sl.shape
          obtain ⟨AB, nB, cB, rfl⟩ := k2.snd.sl.shape
          have hg := grown_of_below k7
          have hne : ∀ g, g < B6 + 3 → some g ≠ some D := fun g hg e => by injection e with e; omega
          have hz : l.any (outB p) = false := by
            rw [List.any_eq_false]
            intro y hy
            have hfl : y ∈ (chk m l k).flatten := by rw [chk_flatten _ _ _ (by have := HDD.out; omega) HLEN.out]; exact hy
            obtain ⟨r, hr, hyr⟩ := List.mem_flatten.1 hfl
            rw [k3 r hr y hyr]
            simp
          have hE0 : modelE p l = 0 := by rw [HE.out, hz]; rfl
          obtain ⟨hW1, hW2⟩ := HW.out hE0
          have HS0 := Lib.hid k2
          have HK1 : Hid (Bk W B6 59 #[.slice AW nW cW, .slice AB nB cB]) := Lib.hid k1
          have c60 := k1.cell 0
          have c61 := k1.cell 1
          have c40 := k5.cell 0
          have c41 := k5.cell 1
          have c50 := k6.cell 0
          have f4 := k5.free
          have f5 := k6.free
          simp at c60 c61 c40 c41 c50
          have HK4 := Lib.hid k5
          have HK5 := Lib.hid k6
          have HGW := Lib.hid hg
          have HRES : Hid (modelW p l = (chk m l k).map (rowW p d) ∧ modelB p l = (chk m l k).map (rowB p d) ∧ modelE p l = 0) := Lib.hid ⟨hW1, hW2, hE0⟩
          clear k1 k2 k3 k4 k5 k6 k7 k8 k9 hg hz hE0 hW1 hW2
          obtain ⟨wF, hwF⟩ : ∃ x, x = ((W.setCell ⟨w.heap.size + 1, 0, none⟩ (.slice AW nW cW)).setCell ⟨w.heap.size + 1, 1, none⟩ (.slice AB nB cB)).setCell ⟨w.heap.size + 1 + 1, 0, none⟩ (.int .i64 0) := ⟨_, rfl⟩
          have HF4 : Hid (Bk wF (w.heap.size + 1) 59 #[.slice AW nW cW, .slice AB nB cB]) := Lib.hid (by rw [hwF]; exact ((HK4.out.set 0 _).set 1 _).far (by simp) _)
          have HF5 : Hid (Bk wF (w.heap.size + 1 + 1) 42 #[.int .i64 0]) := Lib.hid (by rw [hwF]; exact ((HK5.out.far (by simp) _).far (by simp) _).set 0 _)
          have HFG : Hid (w.grownBy wF none) := Lib.hid (by rw [hwF]; exact grownSetUp (grownSetUp (grownSetUp HGW.out _ _ (by omega)) _ _ (by omega)) _ _ (by omega))
          have HFS : Hid (SideM (B6 + 3) wF (.slice AW nW cW) (.slice AB nB cB) ((chk m l k).map (rowW p d)) ((chk m l k).map (rowB p d))) := Lib.hid (by
            rw [hwF]
            exact ((HS0.out.keep (grownSet _ _ _ _) (fun g hg e => by injection e with e; omega)).keep (grownSet _ _ _ _) (fun g hg e => by injection e with e; omega)).keep (grownSet _ _ _ _) (fun g hg e => by injection e with e; omega))
          have HFD : Hid (wF.heap[D]? = some (.deferred (some []))) := Lib.hid (by
            rw [hwF, Below.heap_setCell _ _ _ _ (by show D ≠ w.heap.size + 1 + 1; omega), Below.heap_setCell _ _ _ _ (by show D ≠ w.heap.size + 1; omega), Below.heap_setCell _ _ _ _ (by show D ≠ w.heap.size + 1; omega)]
            exact hK)
          gi_wp2
          go_wp2_with fail
          try simp only [← hwF]
          have hDg := grownBy_putObj' wF D (.deferred none)
          have hDno : ∀ r, some D = some r → ∃ o : Obj, wF.heap[r]? = some o ∧ o.isCells = false := fun r e => ⟨.deferred (some []), by cases e; exact HFD.out, rfl⟩
          have hS := HFS.out.keepc hDg hDno
          have hG := grown_up HFG.out hDg (fun g e => by injection e with e; omega)
          refine ⟨by simp, .inl ⟨_, _, rfl, run_takeDeferred HFD.out, ?_⟩⟩
          refine ⟨_, results_model rfl _ rfl rfl (HF4.out.grown hDg (hne _ (by omega))) (HF5.out.grown hDg (hne _ (by omega))), ?_⟩
          refine ⟨_, _, by rw [HRES.out.2.2], ?_, ?_, ?_, hG⟩
          · rw [HRES.out.1]
            exact hS.fst.sl.more fun g _ hg => by have := hg.1; omega
          · rw [HRES.out.2.1]
            exact hS.snd.sl.more fun g _ hg => by have := hg.1; omega
          · intro hn
            rw [HRES.out.2.1] at hn
            exact (hS.snd.wr (List.length_pos_iff.2 hn)).more fun g _ hg => by have := hg.1; omega
        case stop =>
          rintro D c pre W hD _ hX hK
          obtain ⟨rfl, k2, k5, k6, k7⟩ := hX
          have hg := grown_of_below k7
          have hDg := grownBy_putObj' W D (.deferred none)
          have hne : ∀ g, g < B6 → some g ≠ some D := fun g hg e => by injection e with e; omega
          have k5' := k5.grown hDg (hne _ (by omega))
          have k6' := k6.grown hDg (hne _ (by omega))
          have HN20 := Lib.hid (HN.out (by rw [HE.out, k2]; rfl))
          have HK5 := Lib.hid k5'
          have HK6 := Lib.hid k6'
          have HGD : Hid (w.grownBy (W.putObj D (.deferred none)) none) := Lib.hid (grown_up hg hDg (fun g e => by injection e with e; omega))
          clear k5 k6 k5' k6' k7 hg hDg
          gi_wp2
          refine ⟨by simp, .inl ⟨_, _, rfl, run_takeDeferred hK, ?_⟩⟩
          exact ⟨_, results_model rfl _ rfl rfl HK5.out HK6.out, gives_noM HN20.out HGD.out⟩
end Go.Proofs.YtmjdpmfcbeaecaaDoor

namespace Go.Proofs.YtmjdpmfcbeaecaaDoor
open Go.RowKit

def Quietly (w : World) (v : Value) (e : Ending) (w' : World) : Prop := e = .returned v ∧ ∃ n, w' = w.drewN n

set_option maxHeartbeats 400000 in
theorem nums_eq (v1 v2 : Value) (xs : List Int) (X Y : Nat → Prop) (w : World) (h1 : Sl encU X w v1 xs) (h2 : Sl encU Y w v2 xs) :
    Calls Tryd.prog 65 #[v1, v2] w (Quietly w (.bool true)) := by
  have H1 := Lib.hid h1
  have H2 := Lib.hid h2
  obtain ⟨A1, c1, rfl, hc1, hc2⟩ := h1.form
  obtain ⟨A2, c2, rfl, _, _⟩ := h2.form
  clear h1 h2
  have HST : Hid (∃ n, w = w.drewN n) := Lib.hid ⟨0, rfl⟩
  go_enter Tryd.func65, Tryd.ntmps65
  go_wp2_with fail
  go_loopg [5] xs.length (fun g s5 wx => ∃ j : Nat, j + g = xs.length ∧ s5 = .int .i64 j ∧ Hid (∃ n, wx = w.drewN n))
  case atStart => exact ⟨0, by omega, rfl, HST⟩
  case round =>
    obtain ⟨j, hj, rfl, HX⟩ := hrel
    obtain ⟨n0, rfl⟩ := HX.out
    cases gk with
    | zero =>
      obtain rfl : j = xs.length := by omega
      clear HX HST
      go_wp2
      go_ret
      exact ⟨rfl, _, rfl⟩
    | succ m =>
      have hjn : (j : Int) < (xs.length : Int) := by omega
      have hj0 : (0 : Int) ≤ (j : Int) := by omega
      have hjN : j < xs.length := by omega
      obtain ⟨g1, o1, c1', e1, _, _, a1, u1⟩ := H1.out.atU hjN
      injection e1 with e11 e12 e13
      subst e11 e13
      obtain ⟨g2, o2, c2', e2, _, _, a2, _⟩ := H2.out.atU hjN
      injection e2 with e21 e22 e23
      subst e21 e23
      clear HX HST e12 e22
      generalize xs[j] = y at *
      go_wp2_with fail
      go_quiet (fail)
      go_wp2_with fail
      go_roundg m
      case measure => omega
      case rel => exact ⟨j + 1, by omega, by go_num, Lib.hid ⟨_, rfl⟩⟩

set_option maxHeartbeats 400000 in
theorem lists_eq (v1 v2 : Value) (xs : List (List Int)) (X Y : Nat → Prop) (w : World) (h1 : Sl (encS encU) X w v1 xs) (h2 : Sl (encS encU) Y w v2 xs) :
    Calls Tryd.prog 15 #[v1, v2] w (Quietly w (.bool true)) := by
  have H1 := Lib.hid h1
  have H2 := Lib.hid h2
  obtain ⟨A1, c1, rfl, hc1, hc2⟩ := h1.form
  obtain ⟨A2, c2, rfl, _, _⟩ := h2.form
  clear h1 h2
  have HST : Hid (∃ n, w = w.drewN n) := Lib.hid ⟨0, rfl⟩
  go_enter Tryd.func15, Tryd.ntmps15
  go_wp2_with fail
  go_loopg [5] xs.length (fun g s5 wx => ∃ j : Nat, j + g = xs.length ∧ s5 = .int .i64 j ∧ Hid (∃ n, wx = w.drewN n))
  case atStart => exact ⟨0, by omega, rfl, HST⟩
  case round =>
    obtain ⟨j, hj, rfl, HX⟩ := hrel
    obtain ⟨n0, rfl⟩ := HX.out
    cases gk with
    | zero =>
      obtain rfl : j = xs.length := by omega
      clear HX HST
      go_wp2
      go_ret
      exact ⟨rfl, _, rfl⟩
    | succ m =>
      have hjn : (j : Int) < (xs.length : Int) := by omega
      have hj0 : (0 : Int) ≤ (j : Int) := by omega
      have hjN : j < xs.length := by omega
      obtain ⟨g1, o1, c1', t1, e1, _, _, a1, k1⟩ := H1.out.atS hjN
      injection e1 with e11 e12 e13
      subst e11 e13
      obtain ⟨g2, o2, c2', t2, e2, _, _, a2, k2⟩ := H2.out.atS hjN
      injection e2 with e21 e22 e23
      subst e21 e23
      have HN := Lib.hid (fun k => nums_eq t1 t2 xs[j] X Y (w.drewN k) (k1.kept (grownBy_drewN (World.grownBy.refl w none) k)) (k2.kept (grownBy_drewN (World.grownBy.refl w none) k)))
      obtain ⟨B1, d1, rfl, _, _⟩ := k1.form
      obtain ⟨B2, d2, rfl, _, _⟩ := k2.form
      clear HX HST e12 e22 k1 k2
      generalize xs[j].length = n1 at *
      go_wp2_with fail
      go_quiet ((go_at_call 65; exact quiet_add (HN.out _)))
      go_wp2_with fail
      go_roundg m
      case measure => omega
      case rel => exact ⟨j + 1, by omega, by go_num, Lib.hid ⟨_, rfl⟩⟩

set_option maxHeartbeats 400000 in
theorem same_eq (v1 v2 : Value) (xs : List (Int × Int)) (X Y : Nat → Prop) (w : World) (h1 : Sl encP X w v1 xs) (h2 : Sl encP Y w v2 xs) :
    Calls Tryd.prog 14 #[v1, v2] w (Quietly w (.bool true)) := by
  have H1 := Lib.hid h1
  have H2 := Lib.hid h2
  obtain ⟨A1, c1, rfl, hc1, hc2⟩ := h1.form
  obtain ⟨A2, c2, rfl, _, _⟩ := h2.form
  clear h1 h2
  have HST : Hid (∃ n, w = w.drewN n) := Lib.hid ⟨0, rfl⟩
  go_enter Tryd.func14, Tryd.ntmps14
  go_wp2_with fail
  go_loopg [5] xs.length (fun g s5 wx => ∃ j : Nat, j + g = xs.length ∧ s5 = .int .i64 j ∧ Hid (∃ n, wx = w.drewN n))
  case atStart => exact ⟨0, by omega, rfl, HST⟩
  case round =>
    obtain ⟨j, hj, rfl, HX⟩ := hrel
    obtain ⟨n0, rfl⟩ := HX.out
    cases gk with
    | zero =>
      obtain rfl : j = xs.length := by omega
      clear HX HST
      go_wp2
      go_ret
      exact ⟨rfl, _, rfl⟩
    | succ m =>
      have hjn : (j : Int) < (xs.length : Int) := by omega
      have hj0 : (0 : Int) ≤ (j : Int) := by omega
      have hjN : j < xs.length := by omega
      obtain ⟨g1, o1, c1', e1, _, _, a1, b1, u1, u2⟩ := H1.out.atP hjN
      injection e1 with e11 e12 e13
      subst e11 e13
      obtain ⟨g2, o2, c2', e2, _, _, a2, b2, _, _⟩ := H2.out.atP hjN
      injection e2 with e21 e22 e23
      subst e21 e23
      clear HX HST e12 e22
      generalize xs[j].1 = y1 at *
      generalize xs[j].2 = y2 at *
      go_wp2_with fail
      go_quiet (fail)
      go_wp2_with fail
      go_roundg m
      case measure => omega
      case rel => exact ⟨j + 1, by omega, by go_num, Lib.hid ⟨_, rfl⟩⟩

end Go.Proofs.YtmjdpmfcbeaecaaDoor

namespace Go.Proofs.YtmjdpmfcbeaecaaDoor
open Go Go.RowKit

set_option maxRecDepth 100000 in
set_option maxHeartbeats 2000000 in
theorem models_eq (a1 b1 a2 b2 : Value) (W : List (List Int)) (B : List Int) (X Y Z T : Nat → Prop) (w : World) (h1 : Sl (encS encI) X w a1 W) (h2 : Sl encI Y w b1 B) (h3 : Sl (encS encI) Z w a2 W) (h4 : Sl encI T w b2 B) :
    Calls Tryd.prog 29 #[.agg #[a1, b1], .agg #[a2, b2]] w fun e w' => e = .returned (.bool true) ∧ w.grownBy w' none := by
  obtain ⟨A1, c1, rfl, ka1, kb1⟩ := h1.form
  obtain ⟨A2, c2, rfl, ka2, kb2⟩ := h2.form
  obtain ⟨A3, c3, rfl, ka3, kb3⟩ := h3.form
  obtain ⟨A4, c4, rfl, ka4, kb4⟩ := h4.form
  have HGW : Hid (w.grownBy ((w.alloc (.cells #[.slice A1 W.length c1, .slice A2 B.length c2] 59)).alloc (.cells #[.slice A3 W.length c3, .slice A4 B.length c4] 59)) none) := Lib.hid grown_two
  have HB1 : Hid (Bk ((w.alloc (.cells #[.slice A1 W.length c1, .slice A2 B.length c2] 59)).alloc (.cells #[.slice A3 W.length c3, .slice A4 B.length c4] 59)) w.heap.size 59 #[.slice A1 W.length c1, .slice A2 B.length c2]) := Lib.hid ((Bk.new w _ _).alloc _)
  have HB2 : Hid (Bk ((w.alloc (.cells #[.slice A1 W.length c1, .slice A2 B.length c2] 59)).alloc (.cells #[.slice A3 W.length c3, .slice A4 B.length c4] 59)) (w.heap.size + 1) 59 #[.slice A3 W.length c3, .slice A4 B.length c4]) := Lib.hid (by
    have h := Bk.new (w.alloc (.cells #[.slice A1 W.length c1, .slice A2 B.length c2] 59)) 59 #[.slice A3 W.length c3, .slice A4 B.length c4]
    rw [World.size_alloc] at h
    exact h)
  have H1 := Lib.hid (h1.kept HGW.out)
  have H2 := Lib.hid (h2.kept HGW.out)
  have H3 := Lib.hid (h3.kept HGW.out)
  have H4 := Lib.hid (h4.kept HGW.out)
  clear h1 h2 h3 h4
  have hs1 : (w.alloc (.cells #[.slice A1 W.length c1, .slice A2 B.length c2] 59)).heap.size = w.heap.size + 1 := by simp
  obtain ⟨WB, hWB⟩ : ∃ x, (w.alloc (.cells #[.slice A1 W.length c1, .slice A2 B.length c2] 59)).alloc (.cells #[.slice A3 W.length c3, .slice A4 B.length c4] 59) = x := ⟨_, rfl⟩
  rw [hWB] at HGW HB1 HB2 H1 H2 H3 H4
  have q1 := HB1.out.cell 0
  have q2 := HB1.out.cell 1
  have q3 := HB2.out.cell 0
  have q4 := HB2.out.cell 1
  simp at q1 q2 q3 q4
  have HST : Hid (∃ n, WB = WB.drewN n) := Lib.hid ⟨0, rfl⟩
  obtain ⟨m, hm⟩ : ∃ m, m = B.length := ⟨_, rfl⟩
  have HM := Lib.hid hm
  rw [← hm] at H2 H4 q2 q4 ka2 ka4 hWB hs1 ⊢
  clear hm HB1 HB2
  go_enter Tryd.func29, Tryd.ntmps29
  go_wp2_with fail
  go_loopg [5] W.length (fun g s5 wx => ∃ j : Nat, j + g = W.length ∧ s5 = .int .i64 j ∧ Hid (∃ n, wx = WB.drewN n))
  case atStart => exact ⟨0, by omega, rfl, HST⟩
  case round =>
    obtain ⟨j, hj, rfl, HX⟩ := hrel
    obtain ⟨n0, rfl⟩ := HX.out
    clear HX
    cases gk with
    | zero =>
      obtain rfl : j = W.length := by omega
      have HS2 : Hid (∃ n, WB.drewN n0 = WB.drewN n) := Lib.hid ⟨n0, rfl⟩
      go_wp2_with fail
      go_loopg [7] m (fun g s7 wx => ∃ j : Nat, j + g = m ∧ s7 = .int .i64 j ∧ Hid (∃ n, wx = WB.drewN n))
      case atStart => exact ⟨0, by omega, rfl, HS2⟩
      case round =>
        obtain ⟨k, hk, rfl, HX⟩ := hrel
        obtain ⟨n1, rfl⟩ := HX.out
        clear HX
        cases gk with
        | zero =>
          obtain rfl : k = m := by omega
          have HFG : Hid (w.grownBy (WB.drewN n1) none) := Lib.hid (HGW.out.trans (grown_drewN' WB n1))
          clear HST HS2
          go_wp2
          go_ret
          exact ⟨rfl, HFG.out⟩
        | succ m2 =>
          have hkn : (k : Int) < (m : Int) := by omega
          have hk0 : (0 : Int) ≤ (k : Int) := by omega
          have hkN : k < B.length := by rw [← HM.out]; omega
          have hkM : k < m := by omega
          obtain ⟨g1, o1, c1', e1, _, _, r1, _⟩ := H2.out.atI hkN
          rw [← HM.out] at e1
          injection e1 with e11 e12 e13
          subst e11 e13
          obtain ⟨g2, o2, c2', e2, _, _, r2, _⟩ := H4.out.atI hkN
          rw [← HM.out] at e2
          injection e2 with e21 e22 e23
          subst e21 e23
          clear HST HS2 e12 e22
          generalize B[k] = y at *
          go_wp2_with fail
          go_quiet (fail)
          go_wp2_with fail
          go_roundg m2
          case measure => omega
          case rel => exact ⟨k + 1, by omega, by go_num, Lib.hid ⟨_, rfl⟩⟩
    | succ m1 =>
      have hjn : (j : Int) < (W.length : Int) := by omega
      have hj0 : (0 : Int) ≤ (j : Int) := by omega
      have hjN : j < W.length := by omega
      obtain ⟨g1, o1, c1', t1, e1, _, _, r1, k1⟩ := H1.out.atS hjN
      injection e1 with e11 e12 e13
      subst e11 e13
      obtain ⟨g2, o2, c2', t2, e2, _, _, r2, k2⟩ := H3.out.atS hjN
      injection e2 with e21 e22 e23
      subst e21 e23
      have hbd := k1.bound
      have K1 := Lib.hid k1
      have K2 := Lib.hid k2
      obtain ⟨D1, d1, rfl, _, _⟩ := k1.form
      obtain ⟨D2, d2, rfl, _, _⟩ := k2.form
      clear HST e12 e22 k1 k2
      obtain ⟨row, hrow⟩ : ∃ r, r = W[j] := ⟨_, rfl⟩
      rw [← hrow] at K1 K2 r1 r2 hbd
      obtain ⟨n2, hn2⟩ : ∃ n, n = row.length := ⟨_, rfl⟩
      have HN2 := Lib.hid hn2
      rw [← hn2] at K1 K2 r1 r2 hbd
      clear hrow hn2
      go_wp2_with fail
      go_quiet (fail)
      go_wp2_with fail
      go_loopg [6] n2 (fun g s6 wx => ∃ k : Nat, k + g = n2 ∧ s6 = .int .i64 k ∧ Hid (∃ n, wx = WB.drewN n))
      case atStart => exact ⟨0, by omega, rfl, Lib.hid ⟨_, World.drewN_drewN _ _ _⟩⟩
      case round =>
        obtain ⟨k, hk, rfl, HX⟩ := hrel
        obtain ⟨n3, rfl⟩ := HX.out
        clear HX
        cases gk with
        | zero =>
          obtain rfl : k = n2 := by omega
          go_wp2_with fail
          go_roundg m1
          case measure => omega
          case rel => exact ⟨j + 1, by omega, by go_num, Lib.hid ⟨_, rfl⟩⟩
        | succ m2 =>
          have hkn : (k : Int) < (n2 : Int) := by omega
          have hk0 : (0 : Int) ≤ (k : Int) := by omega
          have hkN : k < row.length := by rw [← HN2.out]; omega
          have hkM : k < n2 := by omega
          obtain ⟨g3, o3, c3', e3, _, _, r3, _⟩ := K1.out.atI hkN
          rw [← HN2.out] at e3
          injection e3 with e31 e32 e33
          subst e31 e33
          obtain ⟨g4, o4, c4', e4, _, _, r4, _⟩ := K2.out.atI hkN
          rw [← HN2.out] at e4
          injection e4 with e41 e42 e43
          subst e41 e43
          clear e32 e42
          generalize row[k] = y at *
          go_wp2_with fail
          go_quiet (fail)
          go_wp2_with fail
          go_roundg m2
          case measure => omega
          case rel => exact ⟨k + 1, by omega, by go_num, Lib.hid ⟨_, rfl⟩⟩
end Go.Proofs.YtmjdpmfcbeaecaaDoor

namespace Go.Proofs.YtmjdpmfcbeaecaaDoor
open Go Go.RowKit

def invF (a m : Int) : Option Nat := (List.range m.toNat).find? fun x => (a * (x : Int)) % m == 1 % m
theorem invF_some {a m : Int} {x : Nat} (h : invF a m = some x) : (x : Int) < m ∧ Cg m (a * x) 1 := by
  have h1 := List.find?_some h
  have h2 := List.mem_of_find?_eq_some h
  have h3 := List.mem_range.1 h2
  refine ⟨by omega, ?_⟩
  simp at h1
  exact h1
theorem hasInv_invF {a m : Int} (hm : 0 < m) : HasInv a m ↔ (invF a m).isSome = true := by
  constructor
  · rintro ⟨x, h1, h2, h3⟩
    rw [Option.isSome_iff_ne_none]
    intro hn
    have := List.find?_eq_none.1 hn x.toNat (List.mem_range.2 (by omega))
    rw [Int.toNat_of_nonneg h1] at this
    simp at this
    exact this h3
  · intro h
    obtain ⟨x, hx⟩ := Option.isSome_iff_exists.1 h
    obtain ⟨h1, h2⟩ := invF_some hx
    exact ⟨x, by omega, h1, h2⟩
theorem invI_invF {a m : Int} (hm : 0 < m) : invI a m = ((invF a m).getD 0 : Nat) := by
  cases h : invF a m with
  | none =>
    have : ¬ HasInv a m := by rw [hasInv_invF hm, h]; simp
    simp [invI, this]
  | some x =>
    obtain ⟨h1, h2⟩ := invF_some h
    exact invI_eq (by omega) h1 h2
def wErrC (q : Int) (xs : List Int) (at_ : Int) : Int := if unlikeI xs q = 0 then (if (List.range xs.length).all fun i => (invF (underI q xs at_ i) q).isSome then 0 else 5) else unlikeI xs q
theorem wErr_eq (q : Int) (xs : List Int) (at_ : Int) : wErr q xs at_ = wErrC q xs at_ := by
  unfold wErr wErrC
  split
  · rename_i h
    have hm := (unlikeI_zero h).1
    simp [mayB] at hm
    have : (∀ i, i < xs.length → HasInv (underI q xs at_ i) q) ↔ ((List.range xs.length).all fun i => (invF (underI q xs at_ i) q).isSome) = true := by
      rw [List.all_eq_true]
      exact ⟨fun h i hi => (hasInv_invF hm.1).1 (h i (List.mem_range.1 hi)), fun h i hi => (hasInv_invF hm.1).2 (h i (List.mem_range.2 hi))⟩
    simp only [this]
  · rfl
def wListC (q : Int) (xs : List Int) (at_ : Int) : List Int := if wErrC q xs at_ = 0 then (List.range xs.length).map fun i => mulI ((invF (underI q xs at_ i) q).getD 0 : Nat) (overI q xs at_ i) q else []
theorem wList_eq (q : Int) (xs : List Int) (at_ : Int) : wList q xs at_ = wListC q xs at_ := by
  unfold wList wListC
  rw [wErr_eq]
  split
  · rename_i h
    have hu : unlikeI xs q = 0 := Classical.byContradiction fun hn => by
      unfold wErrC at h
      rw [if_neg hn] at h
      exact hn h
    have hm := (unlikeI_zero hu).1
    simp [mayB] at hm
    refine List.map_congr_left fun i _ => ?_
    rw [wAt, invI_invF hm.1]
  · rfl
def sumEC (p : Par) (at_ : List Int) (l : List (List (Int × Int))) : Int := if smallB p && membersB at_ && at_.length == l.length && !l.any (fun x => oddB p x) then wErrC p.Q at_ 0 else 1
def sumLC (p : Par) (at_ : List Int) (l : List (List (Int × Int))) : List (Int × Int) := if sumEC p at_ l = 0 then (List.range (secretsI p).toNat).map fun s => comeP p.Q (l.map fun x => x[s]?.getD (0, 0)) (wListC p.Q at_ 0) (0, 0) else []
theorem sumE_eq (p : Par) (at_ : List Int) (l : List (List (Int × Int))) : sumE p at_ l = sumEC p at_ l := by unfold sumE sumEC; rw [wErr_eq]
theorem sumL_eq (p : Par) (at_ : List Int) (l : List (List (Int × Int))) : sumL p at_ l = sumLC p at_ l := by unfold sumL sumLC; rw [sumE_eq, wList_eq]
def comsEC (p : Par) (deals : List (Int × List (List Int))) : Int :=
  if smallB p && decide (0 ≤ p.T ∧ p.T ≤ 2) && !deals.any (fun d => !((d.2.length : Int) == secretsI p) || d.2.any (shortB p)) && membersB (deals.map (·.1)) then wErrC p.Q (deals.map (·.1)) 0 else 1
def comsLC (p : Par) (deals : List (Int × List (List Int))) : List (List Int) :=
  if comsEC p deals = 0 then (List.range (secretsI p).toNat).map fun s => (List.range (p.T + 1).toNat).map fun j => comeU p.P (deals.map fun d => (d.2[s]?.getD [])[j]?.getD 0) (wListC p.Q (deals.map (·.1)) 0) (timesI p.P []) else []
theorem comsE_eq (p : Par) (deals : List (Int × List (List Int))) : comsE p deals = comsEC p deals := by unfold comsE comsEC; rw [wErr_eq]
theorem comsL_eq (p : Par) (deals : List (Int × List (List Int))) : comsL p deals = comsLC p deals := by unfold comsL comsLC; rw [comsE_eq, wList_eq]
abbrev ps : Par := ⟨23, 11, 4, 9, 4, 4, 1, 1, 1, 1, 1, 1⟩
theorem ps_ok : ps.ok := ⟨⟨by decide, by decide⟩, ⟨by decide, by decide⟩, ⟨by decide, by decide⟩, ⟨by decide, by decide⟩, ⟨by decide, by decide⟩, ⟨by decide, by decide⟩, ⟨by decide, by decide⟩, ⟨by decide, by decide⟩, ⟨by decide, by decide⟩, ⟨by decide, by decide⟩, ⟨by decide, by decide⟩, ⟨by decide, by decide⟩⟩
theorem ex1 : sumL ps [1, 2] [[(6, 5), (0, 0)], [(7, 8), (4, 6)]] = [(5, 2), (7, 5)] := by rw [sumL_eq]; decide +kernel
theorem ex2 : comsL ps [(1, [[4, 1], [1, 4]]), (2, [[9, 1], [1, 1]])] = [[12, 1], [1, 16]] := by rw [comsL_eq]; decide +kernel
theorem ex3 : modelW ps [1, 10] = [[1]] ∧ modelB ps [1, 10] = [-1] ∧ modelE ps [1, 10] = 0 := by decide +kernel
set_option maxHeartbeats 400000 in
theorem small20_any (w : World) : Calls Tryd.prog 30 #[] w fun e w' => e = .returned ps.v ∧ w.grownBy w' none := by
  have HB := Lib.hid (Bk.new w 24 #[.int .u64 0, .int .u64 0, .int .u64 0, .int .u64 0, .int .i64 0, .int .i64 0, .int .i64 0, .int .i64 0, .int .i64 0, .int .i64 0, .int .i64 0, .int .i64 0])
  go_enter Tryd.func30, Tryd.ntmps30
  go_wp2
  first
    | (go_ret; exact ⟨rfl, World.grownBy.refl _ none⟩)
    | exact bodyPost_ret (v := ps.v) (by simp [results, Tryd.results30, go_sem]) rfl ⟨rfl, World.grownBy_alloc w _ none⟩
end Go.Proofs.YtmjdpmfcbeaecaaDoor

namespace Go.Proofs.YtmjdpmfcbeaecaaDoor
open Go.RowKit

def triedL : List Int := [2, 3, 5, 7, 11, 13, 17, 19, 23, 29, 31, 37]
/-- The two tables, where their variables lie. -/
def TabsAt (w : World) : Prop := (∀ j, j < Lib.deBruijn64tab.length → w.cell? ⟨1, j, none⟩ = some (.int .u8 (Lib.deBruijn64tab.getD j 0))) ∧ (∀ j, j < 12 → w.cell? ⟨0, j, none⟩ = some (.int .u64 (triedL.getD j 0)))
theorem TabsAt.drewN {w : World} (h : TabsAt w) (n : Nat) : TabsAt (w.drewN n) := h

set_option maxHeartbeats 400000 in
theorem tz64_core (x k idx : Nat) (w : World) (hx0 : ((x : Int) == 0) = false)
    (key : IntKind.u64.wrap (bits BinOp.and IntKind.u64 (x : Int) (IntKind.u64.wrap (-(x : Int))) * 285870213051353865) / 288230376151711744 = (idx : Int))
    (hi : idx < 64) (hk : k < 64) (hcell : w.cell? ⟨1, idx, none⟩ = some (.int .u8 k)) :
    Calls Tryd.prog 85 #[.int .u64 x] w fun e w' => e = .returned (.int .i64 k) ∧ w' = w := by
  go_enter Tryd.func85, Tryd.ntmps85
  go_wp2_with (simp only [key])
  go_ret
  exact ⟨rfl, rfl⟩

theorem tz64_key (x a : Nat) (hx : x < 18446744073709551616) (hx0 : x ≠ 0) (hlow : x &&& (18446744073709551616 - x) = a) :
    IntKind.u64.wrap (bits BinOp.and IntKind.u64 (x : Int) (IntKind.u64.wrap (-(x : Int))) * 285870213051353865) / 288230376151711744 = ((a * 285870213051353865 % 18446744073709551616 / 288230376151711744 : Nat) : Int) := by
  have e1 : IntKind.u64.wrap (-(x : Int)) = ((18446744073709551616 - x : Nat) : Int) := by rw [IntKind.wrap_u64]; omega
  rw [e1, bits_and_u64_nat x _ hx (by omega), hlow, IntKind.wrap_u64]
  omega

theorem tz64_any (x : Int) (w : World) (h0 : 0 < x) (h1 : x < 18446744073709551616) (hT : TabsAt w) :
    Calls Tryd.prog 85 #[.int .u64 x] w fun e w' => e = .returned (.int .i64 (Lib.ctz 64 x.toNat)) ∧ w' = w := by
  obtain ⟨n, rfl⟩ := Int.eq_ofNat_of_zero_le (show 0 ≤ x by omega)
  rw [Int.toNat_natCast]
  have hx0 : n ≠ 0 := by omega
  have hx : n < 18446744073709551616 := by omega
  obtain ⟨hlow, hk⟩ := Lib.lowest_bit 64 n hx0 hx
  obtain ⟨hi, htab⟩ := Lib.deBruijn64_at _ hk
  have hcell := hT.1 _ hi
  rw [htab] at hcell
  exact tz64_core n _ _ w (by simp; omega) (tz64_key n _ hx hx0 hlow) hi hk hcell

/-- Squares until n - 1 is met. -/
def witB (n : Int) : Nat → Int → Bool
  | 0, _ => false
  | k + 1, x => x == n - 1 || witB n k (mulI x x n)
def passB (n a : Int) (t : Nat) : Bool := powI a ((n - 1) / 2 ^ t) n == 1 || witB n t (powI a ((n - 1) / 2 ^ t) n)
def goB (n : Int) (t : Nat) : List Int → Bool
  | [] => true
  | a :: l => if n % a = 0 then decide (n = a) else if passB n a t then goB n t l else false
def primeB (n : Int) : Bool := if n < 2 ∨ 2305843009213693952 < n then false else goB n (Lib.ctz 64 (n - 1).toNat) triedL

set_option maxHeartbeats 400000 in
theorem prime_out (n : Int) (w : World) (h : n < 2 ∨ 2305843009213693952 < n) :
    Calls Tryd.prog 41 #[.int .u64 n] w fun e w' => e = .returned (.bool false) ∧ ∃ k, w' = w.drewN k := by
  by_cases h2 : n < 2
  · clear h
    have h2' : decide (n < 2) = true := by simpa using h2
    go_enter Tryd.func41, Tryd.ntmps41
    go_wp2
    go_step3
    go_wp2
    (try rw [Exit.noGoto_ret])
    go_ret
    exact ⟨rfl, 0, rfl⟩
  · have h2' : decide (n < 2) = false := by simpa using h2
    have h3 : 2305843009213693952 < n := h.resolve_left h2
    have h3' : decide (2305843009213693952 < n) = true := by simpa using h3
    clear h
    go_enter Tryd.func41, Tryd.ntmps41
    go_wp2
    go_step3
    go_wp2
    (try rw [Exit.noGoto_ret])
    go_ret
    exact ⟨rfl, 0, rfl⟩

theorem powI_U64 (a e m : Int) : U64 (powI a e m) := by
  cases hm : mayB m with
  | false => simp [powI, hm, U64]
  | true =>
    simp only [powI, hm, if_true]
    simp [mayB] at hm
    have := emod_bd (a ^ e.toNat) m hm.1
    unfold U64
    omega
/-- The k-th of the numbers: what it is, and how the walk reads it. -/
theorem tried_at : ∀ k : Nat, k < 12 → ∃ p : Int, triedL.drop k = p :: triedL.drop (k + 1) ∧ 2 ≤ p ∧ p ≤ 37 ∧
    ∀ w, (Instr.index 123 (.agg #[.int .u64 2, .int .u64 3, .int .u64 5, .int .u64 7, .int .u64 11, .int .u64 13, .int .u64 17, .int .u64 19, .int .u64 23, .int .u64 29, .int .u64 31, .int .u64 37]) (.int .i64 k)).run Tryd.prog w = .ok (.int .u64 p) w := by
  intro k hk
  match k, hk with
  | 0, _ => exact ⟨2, rfl, by decide, by decide, fun _ => by kernel_rfl⟩
  | 1, _ => exact ⟨3, rfl, by decide, by decide, fun _ => by kernel_rfl⟩
  | 2, _ => exact ⟨5, rfl, by decide, by decide, fun _ => by kernel_rfl⟩
  | 3, _ => exact ⟨7, rfl, by decide, by decide, fun _ => by kernel_rfl⟩
  | 4, _ => exact ⟨11, rfl, by decide, by decide, fun _ => by kernel_rfl⟩
  | 5, _ => exact ⟨13, rfl, by decide, by decide, fun _ => by kernel_rfl⟩
  | 6, _ => exact ⟨17, rfl, by decide, by decide, fun _ => by kernel_rfl⟩
  | 7, _ => exact ⟨19, rfl, by decide, by decide, fun _ => by kernel_rfl⟩
  | 8, _ => exact ⟨23, rfl, by decide, by decide, fun _ => by kernel_rfl⟩
  | 9, _ => exact ⟨29, rfl, by decide, by decide, fun _ => by kernel_rfl⟩
  | 10, _ => exact ⟨31, rfl, by decide, by decide, fun _ => by kernel_rfl⟩
  | 11, _ => exact ⟨37, rfl, by decide, by decide, fun _ => by kernel_rfl⟩

set_option maxHeartbeats 400000 in
theorem prime_in (n : Int) (w : World) (h2 : 2 ≤ n) (h3 : n ≤ 2305843009213693952) (hT : TabsAt w) :
    Calls Tryd.prog 41 #[.int .u64 n] w fun e w' => e = .returned (.bool (goB n (Lib.ctz 64 (n - 1).toNat) triedL)) ∧ ∃ k, w' = w.drewN k := by
  have h2' : decide (n < 2) = false := by simp; omega
  have h3' : decide (2305843009213693952 < n) = false := by simp; omega
  have HT := Lib.hid hT
  obtain ⟨t, ht⟩ : ∃ t, t = Lib.ctz 64 (n - 1).toNat := ⟨_, rfl⟩
  have ht64 : t < 64 := by rw [ht]; exact (Lib.lowest_bit 64 (n - 1).toNat (by omega) (by omega)).2
  have HZ := Lib.hid (tz64_any (n - 1) w (by omega) (by omega) hT)
  rw [← ht] at HZ ⊢
  clear ht hT
  go_enter Tryd.func41, Tryd.ntmps41
  go_wp2
  go_step3
  go_wp2_with fail
  refine HZ.out.mono ?_
  rintro e w' ⟨rfl, hw'⟩
  rw [hw']
  clear hw'
  go_wp2_with fail
  go_step3
  have k0 : w.cell? ⟨0, 0, none⟩ = some (.int .u64 2) := HT.out.2 0 (by decide)
  have k1 : w.cell? ⟨0, 1, none⟩ = some (.int .u64 3) := HT.out.2 1 (by decide)
  have k2 : w.cell? ⟨0, 2, none⟩ = some (.int .u64 5) := HT.out.2 2 (by decide)
  have k3 : w.cell? ⟨0, 3, none⟩ = some (.int .u64 7) := HT.out.2 3 (by decide)
  have k4 : w.cell? ⟨0, 4, none⟩ = some (.int .u64 11) := HT.out.2 4 (by decide)
  have k5 : w.cell? ⟨0, 5, none⟩ = some (.int .u64 13) := HT.out.2 5 (by decide)
  have k6 : w.cell? ⟨0, 6, none⟩ = some (.int .u64 17) := HT.out.2 6 (by decide)
  have k7 : w.cell? ⟨0, 7, none⟩ = some (.int .u64 19) := HT.out.2 7 (by decide)
  have k8 : w.cell? ⟨0, 8, none⟩ = some (.int .u64 23) := HT.out.2 8 (by decide)
  have k9 : w.cell? ⟨0, 9, none⟩ = some (.int .u64 29) := HT.out.2 9 (by decide)
  have k10 : w.cell? ⟨0, 10, none⟩ = some (.int .u64 31) := HT.out.2 10 (by decide)
  have k11 : w.cell? ⟨0, 11, none⟩ = some (.int .u64 37) := HT.out.2 11 (by decide)
  go_wp2_with fail
  clear k0 k1 k2 k3 k4 k5 k6 k7 k8 k9 k10 k11
  go_loopg [17] 12 (fun g s17 wx => ∃ k : Nat, k + g = 12 ∧ s17 = .int .i64 k ∧ Hid (goB n t (triedL.drop k) = goB n t triedL) ∧ ∃ q, wx = w.drewN q)
  case atStart => exact ⟨0, rfl, rfl, Lib.hid rfl, 0, rfl⟩
  case round =>
    obtain ⟨k, hkg, rfl, HG, q, rfl⟩ := hrel
    cases gk with
    | zero =>
      obtain rfl : k = 12 := by omega
      have HE : Hid (true = goB n t triedL) := Lib.hid HG.out
      go_wp2
      (try rw [Exit.noGoto_ret])
      go_ret
      exact ⟨congrArg Ending.returned (congrArg Value.bool HE.out), _, rfl⟩
    | succ g =>
      have hk : k < 12 := by omega
      obtain ⟨p, hd, hp2, hp37, hidx⟩ := tried_at k hk
      have HG2 : Hid (goB n t (p :: triedL.drop (k + 1)) = goB n t triedL) := Lib.hid (by rw [← hd]; exact HG.out)
      clear HG hd
      by_cases hdv : n % p = 0
      · have HE : Hid ((n == p) = goB n t triedL) := Lib.hid (by rw [← HG2.out]; simp only [goB, hdv, if_true]; rfl)
        go_wp2
        (try rw [Exit.noGoto_ret])
        go_ret
        exact ⟨congrArg Ending.returned (congrArg Value.bool HE.out), _, rfl⟩
      · have hdv' : (n % p == 0) = false := by simpa using hdv
        have e0 : 0 ≤ (n - 1) / 2 ^ t := Int.ediv_nonneg (by omega) (Int.le_of_lt (Int.pow_pos (by decide)))
        have e1 : (n - 1) / 2 ^ t ≤ n - 1 := Int.ediv_le_self _ (by omega)
        have HP := Lib.hid (fun w => pow_any p ((n - 1) / 2 ^ t) n w ⟨by omega, by omega⟩ ⟨e0, by omega⟩)
        have hG3 := HG2.out
        simp only [goB, hdv, if_false] at hG3
        have HX := powI_U64 p ((n - 1) / 2 ^ t) n
        unfold passB at hG3
        generalize powI p ((n - 1) / 2 ^ t) n = x0 at HP hG3 HX
        have HU := Lib.hid HX
        clear HX hdv HG2
        by_cases hx1 : x0 = 1
        · have HN : Hid (goB n t (triedL.drop (k + 1)) = goB n t triedL) := Lib.hid (by rw [← hG3]; simp [hx1])
          clear hG3
          have hx1' : (x0 == 1) = true := by simpa using hx1
          clear hx1
          go_wp2_with fail
          refine (HP.out _).mono ?_
          rintro e w' ⟨rfl, n1, rfl⟩
          go_wp2
          go_roundg g
          case measure => omega
          case rel => exact ⟨k + 1, by omega, by go_num, HN, _, rfl⟩
        · have hx1' : (x0 == 1) = false := by simpa using hx1
          have HN : Hid ((if witB n t x0 then goB n t (triedL.drop (k + 1)) else false) = goB n t triedL) := Lib.hid (by rw [← hG3]; simp [hx1'])
          clear hG3 hx1
          go_wp2_with fail
          refine (HP.out _).mono ?_
          rintro e w' ⟨rfl, n1, rfl⟩
          go_wp2_with fail
          clear hidx
          go_loopg [6, 37] t (fun h s6 s37 wx => ∃ (x : Int) (j : Nat), j + h = t ∧ s6 = .int .u64 x ∧ Hid (U64 x) ∧ s37 = .int .i64 j ∧ Hid (witB n h x = witB n t x0) ∧ ∃ q, wx = w.drewN q)
          case atStart => exact ⟨x0, 0, by omega, rfl, HU, rfl, Lib.hid rfl, _, rfl⟩
          case round =>
            obtain ⟨x, j, hj, rfl, hx, rfl, hW, q2, rfl⟩ := hrel
            cases gk with
            | zero =>
              obtain rfl : j = t := by omega
              have HE : Hid (false = goB n j triedL) := Lib.hid (by
                have := HN.out
                rw [← hW.out] at this
                simpa [witB] using this)
              go_wp2
              (try rw [Exit.noGoto_ret])
              go_ret
              exact ⟨congrArg Ending.returned (congrArg Value.bool HE.out), _, rfl⟩
            | succ h =>
              have hjt : (j : Int) < (t : Int) := by omega
              by_cases hxn : x = n - 1
              · have HE : Hid (goB n t (triedL.drop (k + 1)) = goB n t triedL) := Lib.hid (by
                  have := HN.out
                  rw [← hW.out] at this
                  simpa [witB, hxn] using this)
                have hxn' : (x == n - 1) = true := by simpa using hxn
                clear hxn hx1'
                go_wp2
                go_roundg g
                case measure => omega
                case rel => exact ⟨k + 1, by omega, by go_num, HE, _, rfl⟩
              · have hxn' : (x == n - 1) = false := by simpa using hxn
                have HW2 : Hid (witB n h (mulI x x n) = witB n t x0) := Lib.hid (by
                  have := hW.out
                  simpa [witB, hxn'] using this)
                have HX2 := Lib.hid (mulI_U64 x x n)
                clear hxn
                go_wp2_with fail
                refine (mul_any x x n _ hx.out hx.out).mono ?_
                rintro e w' ⟨rfl, n2, rfl⟩
                go_wp2
                go_roundg h
                case measure => omega
                case rel => exact ⟨mulI x x n, j + 1, by omega, rfl, HX2, by go_num, HW2, _, rfl⟩

theorem prime_any (n : Int) (w : World) (hT : TabsAt w) :
    Calls Tryd.prog 41 #[.int .u64 n] w fun e w' => e = .returned (.bool (primeB n)) ∧ ∃ k, w' = w.drewN k := by
  by_cases h : n < 2 ∨ 2305843009213693952 < n
  · rw [show primeB n = false by simp only [primeB, if_pos h]]
    exact prime_out n w h
  · rw [show primeB n = goB n (Lib.ctz 64 (n - 1).toNat) triedL by simp only [primeB, if_neg h]]
    exact prime_in n w (by omega) (by omega) hT
end Go.Proofs.YtmjdpmfcbeaecaaDoor

namespace Go.Proofs.YtmjdpmfcbeaecaaDoor
open Go.ChangeShapes Go.WideShapes Go.RowKit

theorem u64_wf {a : Int} (h : (Lit.int .u64 a).wf = true) : U64 a := by
  have := bounds_u64 h
  unfold U64
  omega
theorem i64_wf {a : Int} (h : (Lit.int .i64 a).wf = true) : I64 a := by
  have := bounds_i64 h
  unfold I64
  omega
/-- Whatever is read at this type reads so. -/
def Reads {α : Type} (E : Enc α) (t : TypeId) : Prop :=
  ∀ {H : Type} {enc : TypeId × Value → H} {w : World} {base : Nat} {spare : Nat → Bool} {held : Bool} {fuel : Nat} {cs : List Value} {x : DataW H × List MemPlace},
    DataW.trod enc Tryd.prog w base spare held fuel t cs = some x → ∃ a, E.rep (fun _ => True) w cs a
theorem reads_u64 {t : TypeId} (ht : Tryd.prog.underlying t = some (.int .u64)) : Reads encU t := by
  intro H enc w base spare held fuel cs x h
  obtain ⟨n, rfl, _, hw⟩ := DataW.trod_int ht h
  exact ⟨n, rfl, u64_wf hw⟩
theorem reads_i64 {t : TypeId} (ht : Tryd.prog.underlying t = some (.int .i64)) : Reads encI t := by
  intro H enc w base spare held fuel cs x h
  obtain ⟨n, rfl, _, hw⟩ := DataW.trod_int ht h
  exact ⟨n, rfl, i64_wf hw⟩
theorem reads_pair {t u : TypeId} {f0 f1 : Field} (ht : Tryd.prog.underlying t = some (.struct #[f0, f1])) (h0 : f0.type = u ∧ f0.offset = 0) (h1 : f1.type = u ∧ f1.offset = 1)
    (hu : Tryd.prog.underlying u = some (.int .u64)) (hc : Tryd.prog.cellsOf t = 2) (hcu : Tryd.prog.cellsOf u = 1) : Reads encP t := by
  intro H enc w base spare held fuel cs x h
  obtain ⟨y0, y1, n, _, hl, e0, e1⟩ := trod_struct2 ht h
  rw [h0.1, h0.2, hcu] at e0
  rw [h1.1, h1.2, hcu] at e1
  obtain ⟨a, ea, _, wa⟩ := DataW.trod_int hu e0
  obtain ⟨b, eb, _, wb⟩ := DataW.trod_int hu e1
  rw [hc] at hl
  match cs, hl with
  | [c0, c1], _ =>
    simp at ea eb
    subst ea eb
    exact ⟨(a, b), rfl, u64_wf wa, u64_wf wb⟩
theorem reads_sl {α : Type} {E : Enc α} {t e : TypeId} (ht : Tryd.prog.underlying t = some (.slice e)) (hE : Reads E e) (hc : Tryd.prog.cellsOf e = E.size) : Reads (encS E) t := by
  intro H enc w base spare held fuel cs x h
  rcases Go.Deep.open_slice ht h with ⟨rfl, _⟩ | ⟨a, len, cap, m, n, D, Pl, rfl, _, hl, hm, hmm, _, hi⟩
  · exact ⟨[], _, rfl, Sl.nil _ _ _⟩
  · have hlm : len ≤ m := by rw [hmm]; split <;> omega
    have key : ∀ i, i < len → ∃ y, ∃ cs', E.rep (fun _ => True) w cs' y ∧ ∀ j, j < E.size → w.cell? (a.add (i * E.size + j)) = cs'[j]? := by
      intro i hil
      obtain ⟨cs', hcell, htr⟩ := hi i (by omega)
      obtain ⟨y, hy⟩ := hE htr
      obtain ⟨_, hlen, hat⟩ := World.cells?_some hcell
      rw [hc] at hat
      refine ⟨y, cs', hy, fun j hj => ?_⟩
      rw [← hat j hj, Go.Deep.add_add]
    have hcz : ∃ f : Fin len → α, ∀ i : Fin len, ∃ cs', E.rep (fun _ => True) w cs' (f i) ∧ ∀ j, j < E.size → w.cell? (a.add (i.1 * E.size + j)) = cs'[j]? :=
      ⟨fun i => Classical.choose (key i.1 i.2), fun i => Classical.choose_spec (key i.1 i.2)⟩
    obtain ⟨f, hf⟩ := hcz
    have hlen : (List.ofFn f).length = len := List.length_ofFn
    refine ⟨List.ofFn f, _, rfl, some a, cap, by rw [hlen], by omega, by unfold maxLen at hm; omega, fun hn => ?_⟩
    have hpos : 0 < len := by rw [← hlen]; exact List.length_pos_iff.2 hn
    obtain ⟨cs0, hr0, hc0⟩ := hf ⟨0, hpos⟩
    have h00 := hc0 0 E.pos
    have hl0 := E.len hr0
    rw [List.getElem?_eq_getElem (by rw [hl0]; exact E.pos)] at h00
    obtain ⟨g, o, sp⟩ := a
    have hsp : sp = none := by simpa [Addr.add] using World.cell?_spot h00
    subst hsp
    have h00' : w.cell? ⟨g, o, none⟩ = some (cs0[0]'(by rw [hl0]; exact E.pos)) := by simpa [Addr.add] using h00
    have hgl : g < w.heap.size := by
      rcases Nat.lt_or_ge g w.heap.size with hlt | hge
      · exact hlt
      · simp [World.cell?, Array.getElem?_eq_none hge] at h00'
    refine ⟨g, o, rfl, hgl, trivial, fun i hi' => ?_⟩
    obtain ⟨cs', hr', hc'⟩ := hf ⟨i, by omega⟩
    refine ⟨cs', by simpa using hr', fun j u hu => ?_⟩
    have hj : j < E.size := by
      rw [← E.len hr']
      exact (List.getElem?_eq_some_iff.1 hu).1
    rw [← hu, ← hc' j hj]
    have : (⟨g, o, none⟩ : Addr).add (i * E.size + j) = ⟨g, o + i * E.size + j, none⟩ := by
      unfold Addr.add
      split
      · rename_i h0
        have : i * E.size + j = 0 := by simpa using h0
        rw [show o + i * E.size + j = o by omega]
      · rw [Nat.add_assoc]
    rw [this]
/-- A slice that came in as an argument. -/
theorem open_sl {α : Type} {E : Enc α} {t : TypeId} (hR : Reads (encS E) t) {H : Type} {enc : TypeId × Value → H} {w : World} {base : Nat} {spare : Nat → Bool} {held : Bool} {a : Option Addr} {len cap : Nat} {d : DataW H} {p : List MemPlace}
    (h : DataW.Trod enc Tryd.prog w base spare held t (.slice a len cap) d p) : ∃ xs, Sl E (fun _ => True) w (.slice a len cap) xs := by
  obtain ⟨fuel, hf⟩ := h
  obtain ⟨xs, v, e, hs⟩ := hR hf
  simp [Value.cells] at e
  exact ⟨xs, by rw [e]; exact hs⟩
end Go.Proofs.YtmjdpmfcbeaecaaDoor

namespace Go.Proofs.YtmjdpmfcbeaecaaDoor
open Go.RowKit

def withinB (x lo hi : Int) : Bool := decide (lo ≤ x) && decide (x ≤ hi)
theorem withinB_iff (x lo hi : Int) : withinB x lo hi = true ↔ lo ≤ x ∧ x ≤ hi := by simp [withinB]
set_option maxHeartbeats 400000 in
theorem within_eq (x lo hi : Int) (b : Bool) (h : withinB x lo hi = b) (w : World) :
    Calls Tryd.prog 33 #[.int .i64 x, .int .i64 lo, .int .i64 hi] w fun e w' => e = .returned (.bool b) ∧ w' = w := by
  subst h
  by_cases h1 : lo ≤ x
  · by_cases h2 : x ≤ hi
    · have HE : Hid (withinB x lo hi = true) := Lib.hid (by simp [withinB, h1, h2])
      go_enter Tryd.func33, Tryd.ntmps33
      go_wp2
      go_ret
      exact ⟨ret_bool HE.out.symm, rfl⟩
    · have HE : Hid (withinB x lo hi = false) := Lib.hid (by simp [withinB, h2])
      have h2' : decide (x ≤ hi) = false := by simpa using h2
      clear h2
      go_enter Tryd.func33, Tryd.ntmps33
      go_wp2
      go_ret
      exact ⟨ret_bool HE.out.symm, rfl⟩
  · have HE : Hid (withinB x lo hi = false) := Lib.hid (by simp [withinB, h1])
    have h1' : decide (lo ≤ x) = false := by simpa using h1
    clear h1
    go_enter Tryd.func33, Tryd.ntmps33
    go_wp2
    go_ret
    exact ⟨ret_bool HE.out.symm, rfl⟩

def m1 (p : Par) : Bool := decide (2 ≤ p.P) && decide (p.P ≤ 2305843009213693952) && decide (2 ≤ p.Q) && ((p.P - 1) % p.Q == 0)
def m2 (p : Par) : Bool := withinB p.T 1 2
def m3 (p : Par) : Bool := withinB p.N (3 * p.T + 1) 7 && decide (p.N < p.Q)
def m4 (p : Par) : Bool := withinB p.Nodes p.N 8
def m5 (p : Par) : Bool := withinB p.K 1 2 && withinB p.D 1 4
def m6 (p : Par) : Bool := withinB p.R 1 p.D
def m7 (p : Par) : Bool := withinB p.M 1 1048576 && withinB p.X 1 1048576
def m8 (p : Par) : Bool := decide (2 * (p.D * p.M * p.X + p.M) < p.Q)
def m9 (p : Par) : Bool := primeB p.Q && primeB p.P
def m10 (p : Par) : Bool := decide (p.G ≠ 1) && isB p p.G && decide (p.H ≠ 1) && isB p p.H
def mayP (p : Par) : Bool := m1 p && m2 p && m3 p && m4 p && m5 p && m6 p && m7 p && m8 p && m9 p && m10 p

set_option maxHeartbeats 400000 in
theorem may_1 (p : Par) (g : Nat) (w : World) (hp : p.ok) (hb : Bk w g 24 p.cells) :
    Calls Tryd.prog 31 #[.pointer (some ⟨g, 0, none⟩)] w fun e w' => e = .returned (.bool (m1 p)) ∧ w.grownBy w' none := by
  have hc := hb.prule
  obtain ⟨p0, p1⟩ := hp.P
  obtain ⟨q0, q1⟩ := hp.Q
  clear hb hp
  by_cases h1 : 2 ≤ p.P
  · by_cases h2 : p.P ≤ 2305843009213693952
    · by_cases h3 : 2 ≤ p.Q
      · have HE : Hid (m1 p = ((p.P - 1) % p.Q == 0)) := Lib.hid (by simp [m1, h1, h2, h3])
        go_enter Tryd.func31, Tryd.ntmps31
        go_wp2
        go_ret
        exact ⟨ret_bool HE.out.symm, World.grownBy.refl w none⟩
      · have HE : Hid (m1 p = false) := Lib.hid (by simp [m1, h3])
        have h3' : decide (2 ≤ p.Q) = false := by simpa using h3
        clear h3
        go_enter Tryd.func31, Tryd.ntmps31
        go_wp2
        go_ret
        exact ⟨ret_bool HE.out.symm, World.grownBy.refl w none⟩
    · have HE : Hid (m1 p = false) := Lib.hid (by simp [m1, h2])
      have h2' : decide (p.P ≤ 2305843009213693952) = false := by simpa using h2
      clear h2
      go_enter Tryd.func31, Tryd.ntmps31
      go_wp2
      go_ret
      exact ⟨ret_bool HE.out.symm, World.grownBy.refl w none⟩
  · have HE : Hid (m1 p = false) := Lib.hid (by simp [m1, h1])
    have h1' : decide (2 ≤ p.P) = false := by simpa using h1
    clear h1
    go_enter Tryd.func31, Tryd.ntmps31
    go_wp2
    go_ret
    exact ⟨ret_bool HE.out.symm, World.grownBy.refl w none⟩
set_option maxHeartbeats 400000 in
theorem may_2 (p : Par) (g : Nat) (w : World) (hb : Bk w g 24 p.cells) :
    Calls Tryd.prog 32 #[.pointer (some ⟨g, 0, none⟩)] w fun e w' => e = .returned (.bool (m2 p)) ∧ w.grownBy w' none := by
  have hc := hb.prule
  have HW := Lib.hid (fun w => within_eq p.T 1 2 _ rfl w)
  clear hb
  go_enter Tryd.func32, Tryd.ntmps32
  go_wp2_with fail
  refine (HW.out _).mono ?_
  rintro e w' ⟨rfl, rfl⟩
  go_wp2
  go_ret
  exact ⟨rfl, World.grownBy.refl _ none⟩
set_option maxHeartbeats 400000 in
theorem may_3 (p : Par) (g : Nat) (w : World) (hp : p.ok) (hb : Bk w g 24 p.cells) (h2 : m2 p = true) :
    Calls Tryd.prog 34 #[.pointer (some ⟨g, 0, none⟩)] w fun e w' => e = .returned (.bool (m3 p)) ∧ w.grownBy w' none := by
  have hc := hb.prule
  obtain ⟨t0, t1⟩ := (withinB_iff _ _ _).1 h2
  obtain ⟨q0, q1⟩ := hp.Q
  clear hb hp h2
  cases hN : withinB p.N (3 * p.T + 1) 7 with
  | true =>
    obtain ⟨n0, n1⟩ := (withinB_iff _ _ _).1 hN
    have HW := Lib.hid (fun w => within_eq p.N (3 * p.T + 1) 7 _ hN w)
    have HE : Hid (m3 p = decide (p.N < p.Q)) := Lib.hid (by simp [m3, hN])
    clear hN
    go_enter Tryd.func34, Tryd.ntmps34
    go_wp2_with fail
    refine (HW.out _).mono ?_
    rintro e w' ⟨rfl, rfl⟩
    go_wp2
    go_ret
    exact ⟨ret_bool HE.out.symm, World.grownBy.refl _ none⟩
  | false =>
    have HW := Lib.hid (fun w => within_eq p.N (3 * p.T + 1) 7 _ hN w)
    have HE : Hid (m3 p = false) := Lib.hid (by simp [m3, hN])
    clear hN
    go_enter Tryd.func34, Tryd.ntmps34
    go_wp2_with fail
    refine (HW.out _).mono ?_
    rintro e w' ⟨rfl, rfl⟩
    go_wp2
    go_ret
    exact ⟨ret_bool HE.out.symm, World.grownBy.refl _ none⟩
set_option maxHeartbeats 400000 in
theorem may_4 (p : Par) (g : Nat) (w : World) (hb : Bk w g 24 p.cells) :
    Calls Tryd.prog 35 #[.pointer (some ⟨g, 0, none⟩)] w fun e w' => e = .returned (.bool (m4 p)) ∧ w.grownBy w' none := by
  have hc := hb.prule
  have HW := Lib.hid (fun w => within_eq p.Nodes p.N 8 _ rfl w)
  clear hb
  go_enter Tryd.func35, Tryd.ntmps35
  go_wp2_with fail
  refine (HW.out _).mono ?_
  rintro e w' ⟨rfl, rfl⟩
  go_wp2
  go_ret
  exact ⟨rfl, World.grownBy.refl _ none⟩
set_option maxHeartbeats 400000 in
theorem may_5 (p : Par) (g : Nat) (w : World) (hb : Bk w g 24 p.cells) :
    Calls Tryd.prog 36 #[.pointer (some ⟨g, 0, none⟩)] w fun e w' => e = .returned (.bool (m5 p)) ∧ w.grownBy w' none := by
  have hc := hb.prule
  clear hb
  cases hN : withinB p.K 1 2 with
  | true =>
    have HW := Lib.hid (fun w => within_eq p.K 1 2 _ hN w)
    have HV := Lib.hid (fun w => within_eq p.D 1 4 _ rfl w)
    have HE : Hid (m5 p = withinB p.D 1 4) := Lib.hid (by simp [m5, hN])
    clear hN
    go_enter Tryd.func36, Tryd.ntmps36
    go_wp2_with fail
    refine (HW.out _).mono ?_
    rintro e w' ⟨rfl, rfl⟩
    go_wp2_with fail
    refine (HV.out _).mono ?_
    rintro e w' ⟨rfl, rfl⟩
    go_wp2
    go_ret
    exact ⟨ret_bool HE.out.symm, World.grownBy.refl _ none⟩
  | false =>
    have HW := Lib.hid (fun w => within_eq p.K 1 2 _ hN w)
    have HE : Hid (m5 p = false) := Lib.hid (by simp [m5, hN])
    clear hN
    go_enter Tryd.func36, Tryd.ntmps36
    go_wp2_with fail
    refine (HW.out _).mono ?_
    rintro e w' ⟨rfl, rfl⟩
    go_wp2
    go_ret
    exact ⟨ret_bool HE.out.symm, World.grownBy.refl _ none⟩
set_option maxHeartbeats 400000 in
theorem may_6 (p : Par) (g : Nat) (w : World) (hb : Bk w g 24 p.cells) :
    Calls Tryd.prog 37 #[.pointer (some ⟨g, 0, none⟩)] w fun e w' => e = .returned (.bool (m6 p)) ∧ w.grownBy w' none := by
  have hc := hb.prule
  have HW := Lib.hid (fun w => within_eq p.R 1 p.D _ rfl w)
  clear hb
  go_enter Tryd.func37, Tryd.ntmps37
  go_wp2_with fail
  refine (HW.out _).mono ?_
  rintro e w' ⟨rfl, rfl⟩
  go_wp2
  go_ret
  exact ⟨rfl, World.grownBy.refl _ none⟩
set_option maxHeartbeats 400000 in
theorem may_7 (p : Par) (g : Nat) (w : World) (hb : Bk w g 24 p.cells) :
    Calls Tryd.prog 38 #[.pointer (some ⟨g, 0, none⟩)] w fun e w' => e = .returned (.bool (m7 p)) ∧ w.grownBy w' none := by
  have hc := hb.prule
  clear hb
  cases hN : withinB p.M 1 1048576 with
  | true =>
    have HW := Lib.hid (fun w => within_eq p.M 1 1048576 _ hN w)
    have HV := Lib.hid (fun w => within_eq p.X 1 1048576 _ rfl w)
    have HE : Hid (m7 p = withinB p.X 1 1048576) := Lib.hid (by simp [m7, hN])
    clear hN
    go_enter Tryd.func38, Tryd.ntmps38
    go_wp2_with fail
    refine (HW.out _).mono ?_
    rintro e w' ⟨rfl, rfl⟩
    go_wp2_with fail
    refine (HV.out _).mono ?_
    rintro e w' ⟨rfl, rfl⟩
    go_wp2
    go_ret
    exact ⟨ret_bool HE.out.symm, World.grownBy.refl _ none⟩
  | false =>
    have HW := Lib.hid (fun w => within_eq p.M 1 1048576 _ hN w)
    have HE : Hid (m7 p = false) := Lib.hid (by simp [m7, hN])
    clear hN
    go_enter Tryd.func38, Tryd.ntmps38
    go_wp2_with fail
    refine (HW.out _).mono ?_
    rintro e w' ⟨rfl, rfl⟩
    go_wp2
    go_ret
    exact ⟨ret_bool HE.out.symm, World.grownBy.refl _ none⟩
theorem mul_bd (a b x y : Int) (ha0 : 0 ≤ a) (ha : a ≤ x) (hb0 : 0 ≤ b) (hb : b ≤ y) : 0 ≤ a * b ∧ a * b ≤ x * y :=
  ⟨Int.mul_nonneg ha0 hb0, Int.mul_le_mul ha hb hb0 (by omega)⟩
set_option maxHeartbeats 400000 in
theorem may_8 (p : Par) (g : Nat) (w : World) (hp : p.ok) (hb : Bk w g 24 p.cells) (h5 : m5 p = true) (h7 : m7 p = true) :
    Calls Tryd.prog 39 #[.pointer (some ⟨g, 0, none⟩)] w fun e w' => e = .returned (.bool (m8 p)) ∧ w.grownBy w' none := by
  have hc := hb.prule
  simp only [m5, m7, Bool.and_eq_true, withinB_iff] at h5 h7
  obtain ⟨_, d0, d1⟩ := h5
  obtain ⟨⟨a0, a1⟩, x0, x1⟩ := h7
  obtain ⟨q0, q1⟩ := hp.Q
  obtain ⟨e0, e1⟩ := mul_bd p.D p.M 4 1048576 (by omega) d1 (by omega) a1
  obtain ⟨f0, f1⟩ := mul_bd (p.D * p.M) p.X (4 * 1048576) 1048576 e0 e1 (by omega) x1
  have HE : Hid (m8 p = decide (2 * (p.D * p.M * p.X + p.M) < p.Q)) := Lib.hid rfl
  clear hb hp
  go_enter Tryd.func39, Tryd.ntmps39
  go_wp2
  go_ret
  exact ⟨ret_bool HE.out.symm, World.grownBy.refl _ none⟩
end Go.Proofs.YtmjdpmfcbeaecaaDoor

namespace Go.Proofs.YtmjdpmfcbeaecaaDoor
open Go.RowKit

theorem cell_lt {w : World} {g o : Nat} {v : Value} (h : w.cell? ⟨g, o, none⟩ = some v) : g < w.heap.size := by
  rcases Nat.lt_or_ge g w.heap.size with hlt | hge
  · exact hlt
  · simp [World.cell?, Array.getElem?_eq_none hge] at h
theorem TabsAt.kept {w w' : World} (h : TabsAt w) (hg : w.grownBy w' none) : TabsAt w' :=
  ⟨fun j hj => by have := h.1 j hj; rw [World.cell?_of_block (w := w) (hg.block _ (cell_lt this) (by simp))]; exact this,
   fun j hj => by have := h.2 j hj; rw [World.cell?_of_block (w := w) (hg.block _ (cell_lt this) (by simp))]; exact this⟩
set_option maxHeartbeats 400000 in
theorem may_9 (p : Par) (g : Nat) (w : World) (hT : TabsAt w) (hb : Bk w g 24 p.cells) :
    Calls Tryd.prog 40 #[.pointer (some ⟨g, 0, none⟩)] w fun e w' => e = .returned (.bool (m9 p)) ∧ w.grownBy w' none := by
  have hc := hb.prule
  have HQ := prime_any p.Q w hT
  have HP := Lib.hid (fun k => prime_any p.P (w.drewN k) (hT.drewN k))
  clear hb hT
  cases hQ : primeB p.Q with
  | true =>
    rw [hQ] at HQ
    have HQ2 := Lib.hid HQ
    have HE : Hid (m9 p = primeB p.P) := Lib.hid (by simp [m9, hQ])
    clear hQ HQ
    go_enter Tryd.func40, Tryd.ntmps40
    go_wp2_with fail
    refine HQ2.out.mono ?_
    rintro e w' ⟨rfl, k, rfl⟩
    go_wp2_with fail
    refine (HP.out k).mono ?_
    rintro e w' ⟨rfl, k2, rfl⟩
    go_wp2
    go_ret
    exact ⟨ret_bool HE.out.symm, grownBy_drewN (World.grownBy.refl w none) _⟩
  | false =>
    rw [hQ] at HQ
    have HQ2 := Lib.hid HQ
    have HE : Hid (m9 p = false) := Lib.hid (by simp [m9, hQ])
    clear hQ HQ
    go_enter Tryd.func40, Tryd.ntmps40
    go_wp2_with fail
    refine HQ2.out.mono ?_
    rintro e w' ⟨rfl, k, rfl⟩
    go_wp2
    go_ret
    exact ⟨ret_bool HE.out.symm, grownBy_drewN (World.grownBy.refl w none) _⟩
theorem is_eq (p : Par) (x : Int) (b : Bool) (h : isB p x = b) (w : World) (hp : p.ok) (h1 : U64 x) :
    Calls Tryd.prog 43 #[p.v, .int .u64 x] w fun e' w' => e' = .returned (.bool b) ∧ w.grownBy w' none := h ▸ is_any p x w hp h1
set_option maxHeartbeats 400000 in
theorem may_10 (p : Par) (g : Nat) (w : World) (hp : p.ok) (hb : Bk w g 24 p.cells) :
    Calls Tryd.prog 42 #[.pointer (some ⟨g, 0, none⟩)] w fun e w' => e = .returned (.bool (m10 p)) ∧ w.grownBy w' none := by
  have hc := hb.prule
  have HB := Lib.hid hb
  by_cases h1 : p.G = 1
  · have h1' : (p.G != 1) = false := by simpa using h1
    have HE : Hid (m10 p = false) := Lib.hid (by simp [m10, h1])
    clear h1 hp hb
    go_enter Tryd.func42, Tryd.ntmps42
    go_wp2
    go_ret
    exact ⟨ret_bool HE.out.symm, World.grownBy.refl w none⟩
  · have h1' : (p.G != 1) = true := by simpa using h1
    cases hG : isB p p.G with
    | false =>
      have HI := Lib.hid (fun w => is_eq p p.G _ hG w hp hp.G)
      have HE : Hid (m10 p = false) := Lib.hid (by simp [m10, hG])
      clear h1 hp hb hG
      go_enter Tryd.func42, Tryd.ntmps42
      go_wp2_with fail
      refine (HI.out _).mono ?_
      rintro e w1 ⟨rfl, hg⟩
      have HG := Lib.hid hg
      clear hg
      go_wp2
      go_ret
      exact ⟨ret_bool HE.out.symm, HG.out⟩
    | true =>
      have HI := Lib.hid (fun w => is_eq p p.G _ hG w hp hp.G)
      by_cases h2 : p.H = 1
      · have h2' : (p.H != 1) = false := by simpa using h2
        have HE : Hid (m10 p = false) := Lib.hid (by simp [m10, h2])
        clear h1 h2 hp hb hG
        go_enter Tryd.func42, Tryd.ntmps42
        go_wp2_with fail
        refine (HI.out _).mono ?_
        rintro e w1 ⟨rfl, hg⟩
        have HG := Lib.hid hg
        have hc1 := (HB.out.grown hg (by simp)).prule
        clear hg
        go_wp2
        go_ret
        exact ⟨ret_bool HE.out.symm, HG.out⟩
      · have h2' : (p.H != 1) = true := by simpa using h2
        have HJ := Lib.hid (fun w => is_any p p.H w hp hp.H)
        have HE : Hid (m10 p = isB p p.H) := Lib.hid (by simp [m10, hG, h1, h2])
        clear h1 h2 hp hb hG
        go_enter Tryd.func42, Tryd.ntmps42
        go_wp2_with fail
        refine (HI.out _).mono ?_
        rintro e w1 ⟨rfl, hg⟩
        have HG := Lib.hid hg
        have hc1 := (HB.out.grown hg (by simp)).prule
        clear hg
        go_wp2_with fail
        refine (HJ.out _).mono ?_
        rintro e w2 ⟨rfl, hg⟩
        have HG2 := Lib.hid (HG.out.trans hg)
        clear hg
        go_wp2
        go_ret
        exact ⟨ret_bool HE.out.symm, HG2.out⟩
def ms (p : Par) : List Bool := [m1 p, m2 p, m3 p, m4 p, m5 p, m6 p, m7 p, m8 p, m9 p, m10 p]
def fvs (g : Nat) : List Value := [.func (.func 31) #[] #[.pointer (some ⟨g, 0, none⟩)], .func (.func 32) #[] #[.pointer (some ⟨g, 0, none⟩)], .func (.func 34) #[] #[.pointer (some ⟨g, 0, none⟩)], .func (.func 35) #[] #[.pointer (some ⟨g, 0, none⟩)], .func (.func 36) #[] #[.pointer (some ⟨g, 0, none⟩)], .func (.func 37) #[] #[.pointer (some ⟨g, 0, none⟩)], .func (.func 38) #[] #[.pointer (some ⟨g, 0, none⟩)], .func (.func 39) #[] #[.pointer (some ⟨g, 0, none⟩)], .func (.func 40) #[] #[.pointer (some ⟨g, 0, none⟩)], .func (.func 42) #[] #[.pointer (some ⟨g, 0, none⟩)]]

set_option maxHeartbeats 400000 in
theorem ask_1 (p : Par) (g : Nat) (w : World) (hp : p.ok) (_hT : TabsAt w) (hb : Bk w g 24 p.cells)  :
    Calls Tryd.prog 45 #[.func (.func 31) #[] #[.pointer (some ⟨g, 0, none⟩)]] w fun e w' => e = .returned (.bool (!m1 p)) ∧ w.grownBy w' none := by
  have HM := Lib.hid (may_1 p g w hp hb)
  clear hp _hT hb
  go_enter Tryd.func45, Tryd.ntmps45
  go_wp2_with fail
  refine HM.out.mono ?_
  rintro e w1 ⟨rfl, hg⟩
  have HG := Lib.hid hg
  clear hg
  go_wp2
  go_ret
  exact ⟨rfl, HG.out⟩
set_option maxHeartbeats 400000 in
theorem ask_2 (p : Par) (g : Nat) (w : World) (_hp : p.ok) (_hT : TabsAt w) (hb : Bk w g 24 p.cells)  :
    Calls Tryd.prog 45 #[.func (.func 32) #[] #[.pointer (some ⟨g, 0, none⟩)]] w fun e w' => e = .returned (.bool (!m2 p)) ∧ w.grownBy w' none := by
  have HM := Lib.hid (may_2 p g w hb)
  clear _hp _hT hb
  go_enter Tryd.func45, Tryd.ntmps45
  go_wp2_with fail
  refine HM.out.mono ?_
  rintro e w1 ⟨rfl, hg⟩
  have HG := Lib.hid hg
  clear hg
  go_wp2
  go_ret
  exact ⟨rfl, HG.out⟩
set_option maxHeartbeats 400000 in
theorem ask_3 (p : Par) (g : Nat) (w : World) (hp : p.ok) (_hT : TabsAt w) (hb : Bk w g 24 p.cells) (h2 : m2 p = true) :
    Calls Tryd.prog 45 #[.func (.func 34) #[] #[.pointer (some ⟨g, 0, none⟩)]] w fun e w' => e = .returned (.bool (!m3 p)) ∧ w.grownBy w' none := by
  have HM := Lib.hid (may_3 p g w hp hb h2)
  clear hp _hT hb h2
  go_enter Tryd.func45, Tryd.ntmps45
  go_wp2_with fail
  refine HM.out.mono ?_
  rintro e w1 ⟨rfl, hg⟩
  have HG := Lib.hid hg
  clear hg
  go_wp2
  go_ret
  exact ⟨rfl, HG.out⟩
set_option maxHeartbeats 400000 in
theorem ask_4 (p : Par) (g : Nat) (w : World) (_hp : p.ok) (_hT : TabsAt w) (hb : Bk w g 24 p.cells)  :
    Calls Tryd.prog 45 #[.func (.func 35) #[] #[.pointer (some ⟨g, 0, none⟩)]] w fun e w' => e = .returned (.bool (!m4 p)) ∧ w.grownBy w' none := by
  have HM := Lib.hid (may_4 p g w hb)
  clear _hp _hT hb
  go_enter Tryd.func45, Tryd.ntmps45
  go_wp2_with fail
  refine HM.out.mono ?_
  rintro e w1 ⟨rfl, hg⟩
  have HG := Lib.hid hg
  clear hg
  go_wp2
  go_ret
  exact ⟨rfl, HG.out⟩
set_option maxHeartbeats 400000 in
theorem ask_5 (p : Par) (g : Nat) (w : World) (_hp : p.ok) (_hT : TabsAt w) (hb : Bk w g 24 p.cells)  :
    Calls Tryd.prog 45 #[.func (.func 36) #[] #[.pointer (some ⟨g, 0, none⟩)]] w fun e w' => e = .returned (.bool (!m5 p)) ∧ w.grownBy w' none := by
  have HM := Lib.hid (may_5 p g w hb)
  clear _hp _hT hb
  go_enter Tryd.func45, Tryd.ntmps45
  go_wp2_with fail
  refine HM.out.mono ?_
  rintro e w1 ⟨rfl, hg⟩
  have HG := Lib.hid hg
  clear hg
  go_wp2
  go_ret
  exact ⟨rfl, HG.out⟩
set_option maxHeartbeats 400000 in
theorem ask_6 (p : Par) (g : Nat) (w : World) (_hp : p.ok) (_hT : TabsAt w) (hb : Bk w g 24 p.cells)  :
    Calls Tryd.prog 45 #[.func (.func 37) #[] #[.pointer (some ⟨g, 0, none⟩)]] w fun e w' => e = .returned (.bool (!m6 p)) ∧ w.grownBy w' none := by
  have HM := Lib.hid (may_6 p g w hb)
  clear _hp _hT hb
  go_enter Tryd.func45, Tryd.ntmps45
  go_wp2_with fail
  refine HM.out.mono ?_
  rintro e w1 ⟨rfl, hg⟩
  have HG := Lib.hid hg
  clear hg
  go_wp2
  go_ret
  exact ⟨rfl, HG.out⟩
set_option maxHeartbeats 400000 in
theorem ask_7 (p : Par) (g : Nat) (w : World) (_hp : p.ok) (_hT : TabsAt w) (hb : Bk w g 24 p.cells)  :
    Calls Tryd.prog 45 #[.func (.func 38) #[] #[.pointer (some ⟨g, 0, none⟩)]] w fun e w' => e = .returned (.bool (!m7 p)) ∧ w.grownBy w' none := by
  have HM := Lib.hid (may_7 p g w hb)
  clear _hp _hT hb
  go_enter Tryd.func45, Tryd.ntmps45
  go_wp2_with fail
  refine HM.out.mono ?_
  rintro e w1 ⟨rfl, hg⟩
  have HG := Lib.hid hg
  clear hg
  go_wp2
  go_ret
  exact ⟨rfl, HG.out⟩
set_option maxHeartbeats 400000 in
theorem ask_8 (p : Par) (g : Nat) (w : World) (hp : p.ok) (_hT : TabsAt w) (hb : Bk w g 24 p.cells) (h5 : m5 p = true) (h7 : m7 p = true) :
    Calls Tryd.prog 45 #[.func (.func 39) #[] #[.pointer (some ⟨g, 0, none⟩)]] w fun e w' => e = .returned (.bool (!m8 p)) ∧ w.grownBy w' none := by
  have HM := Lib.hid (may_8 p g w hp hb h5 h7)
  clear hp _hT hb h5 h7
  go_enter Tryd.func45, Tryd.ntmps45
  go_wp2_with fail
  refine HM.out.mono ?_
  rintro e w1 ⟨rfl, hg⟩
  have HG := Lib.hid hg
  clear hg
  go_wp2
  go_ret
  exact ⟨rfl, HG.out⟩
set_option maxHeartbeats 400000 in
theorem ask_9 (p : Par) (g : Nat) (w : World) (_hp : p.ok) (hT : TabsAt w) (hb : Bk w g 24 p.cells)  :
    Calls Tryd.prog 45 #[.func (.func 40) #[] #[.pointer (some ⟨g, 0, none⟩)]] w fun e w' => e = .returned (.bool (!m9 p)) ∧ w.grownBy w' none := by
  have HM := Lib.hid (may_9 p g w hT hb)
  clear _hp hT hb
  go_enter Tryd.func45, Tryd.ntmps45
  go_wp2_with fail
  refine HM.out.mono ?_
  rintro e w1 ⟨rfl, hg⟩
  have HG := Lib.hid hg
  clear hg
  go_wp2
  go_ret
  exact ⟨rfl, HG.out⟩
set_option maxHeartbeats 400000 in
theorem ask_10 (p : Par) (g : Nat) (w : World) (hp : p.ok) (_hT : TabsAt w) (hb : Bk w g 24 p.cells)  :
    Calls Tryd.prog 45 #[.func (.func 42) #[] #[.pointer (some ⟨g, 0, none⟩)]] w fun e w' => e = .returned (.bool (!m10 p)) ∧ w.grownBy w' none := by
  have HM := Lib.hid (may_10 p g w hp hb)
  clear hp _hT hb
  go_enter Tryd.func45, Tryd.ntmps45
  go_wp2_with fail
  refine HM.out.mono ?_
  rintro e w1 ⟨rfl, hg⟩
  have HG := Lib.hid hg
  clear hg
  go_wp2
  go_ret
  exact ⟨rfl, HG.out⟩
theorem ask_any (p : Par) (g : Nat) (w : World) (hp : p.ok) (hT : TabsAt w) (hb : Bk w g 24 p.cells) : ∀ (j : Nat) (_h : j < (fvs g).length) (h' : j < (ms p).length), (∀ i (hi : i < j), (ms p)[i]'(by omega) = true) →
    Calls Tryd.prog 45 #[(fvs g)[j]] w fun e w' => e = .returned (.bool (!(ms p)[j])) ∧ w.grownBy w' none
  | 0, _, _, _ => ask_1 p g w hp hT hb
  | 1, _, _, _ => ask_2 p g w hp hT hb
  | 2, _, _, hh => ask_3 p g w hp hT hb (hh 1 (by omega))
  | 3, _, _, _ => ask_4 p g w hp hT hb
  | 4, _, _, _ => ask_5 p g w hp hT hb
  | 5, _, _, _ => ask_6 p g w hp hT hb
  | 6, _, _, _ => ask_7 p g w hp hT hb
  | 7, _, _, hh => ask_8 p g w hp hT hb (hh 4 (by omega)) (hh 6 (by omega))
  | 8, _, _, _ => ask_9 p g w hp hT hb
  | 9, _, _, _ => ask_10 p g w hp hT hb
  | n + 10, h, _, _ => absurd h (by simp [fvs])
theorem mayP_all (p : Par) : mayP p = (ms p).all id := by simp [mayP, ms, Bool.and_assoc]
/-- What IndexFunc tells of the asks. -/
def Found (p : Par) (w : World) (e : Ending) (w' : World) : Prop := ∃ n : Int, e = .returned (.int .i64 n) ∧ decide (0 ≤ n) = !mayP p ∧ w.grownBy w' none
set_option maxHeartbeats 400000 in
theorem index_any (p : Par) (g ga : Nat) (t : TypeId) (w : World) (hp : p.ok) (hT : TabsAt w) (hb : Bk w g 24 p.cells) (ha : Bk w ga t (fvs g).toArray) :
    Calls Tryd.prog 86 #[.slice (some ⟨ga, 0, none⟩) 10 10, .func (.func 45) #[] #[]] w (Found p w) := by
  have HP := Lib.hid hp
  have HT := Lib.hid hT
  have HB := Lib.hid hb
  have HA := Lib.hid ha
  clear hp hT hb ha
  go_enter Tryd.func86, Tryd.ntmps86
  go_wp2_with fail
  go_loopg [8] 10 (fun n s8 wx => ∃ j : Nat, j + n = 10 ∧ s8 = .int .i64 j ∧ Hid (w.grownBy wx none ∧ ∀ i (_ : i < j) (h : i < (ms p).length), (ms p)[i] = true))
  case atStart => exact ⟨0, by omega, rfl, Lib.hid ⟨World.grownBy.refl w none, fun i hi => absurd hi (by omega)⟩⟩
  case round =>
    obtain ⟨j, hj, rfl, HX⟩ := hrel
    cases gk with
    | zero =>
      obtain rfl : j = 10 := by omega
      have HE : Hid (Found p w (.returned (.int .i64 (-1))) wr) := Lib.hid ⟨-1, rfl, by
        have : mayP p = true := by
          rw [mayP_all, List.all_eq_true]
          intro b hb
          obtain ⟨i, hi, rfl⟩ := List.getElem_of_mem hb
          exact HX.out.2 i (by simp [ms] at hi; omega) hi
        rw [this]
        rfl, HX.out.1⟩
      clear HX
      go_wp2
      go_ret
      exact HE.out
    | succ k =>
      have hjn : (j : Int) < 10 := by omega
      have hj1 : j < (fvs g).length := by simp [fvs]; omega
      have hj2 : j < (ms p).length := by simp [ms]; omega
      have hcell : wr.cell? ⟨ga, j, none⟩ = some (fvs g)[j] := by
        rw [(HA.out.grown HX.out.1 (by simp)).cell j, List.getElem?_toArray]
        exact List.getElem?_eq_getElem hj1
      have HC := Lib.hid (ask_any p g wr HP.out (HT.out.kept HX.out.1) (HB.out.grown HX.out.1 (by simp)) j hj1 hj2 (fun i hi => HX.out.2 i hi (by omega)))
      have HV : Hid ((ms p)[j] = true ∨ (ms p)[j] = false) := Lib.hid (by cases (ms p)[j] <;> simp)
      have HR : Hid ((ms p)[j] = true → ∀ i (_ : i < j + 1) (h : i < (ms p).length), (ms p)[i] = true) := Lib.hid (fun h i hi hl => by
        rcases Nat.lt_or_ge i j with h1 | h1
        · exact HX.out.2 i h1 hl
        · obtain rfl : i = j := by omega
          exact h)
      have HN : Hid ((ms p)[j] = false → mayP p = false) := Lib.hid (fun h => by
        rw [mayP_all, Bool.eq_false_iff]
        intro hall
        rw [List.all_eq_true] at hall
        have := hall _ (List.getElem_mem hj2)
        simp [h] at this)
      have HG := Lib.hid HX.out.1
      generalize (fvs g)[j] = fv at *
      generalize (ms p)[j] = b at *
      clear HX hj1 hj2
      rcases HV.out with rfl | rfl
      · go_wp2_with fail
        refine HC.out.mono ?_
        rintro e w1 ⟨rfl, hg⟩
        have HG1 := Lib.hid (HG.out.trans hg)
        clear hg
        go_wp2
        go_roundg k
        case measure => omega
        case rel => exact ⟨j + 1, by omega, by go_num, Lib.hid ⟨HG1.out, HR.out (by simp)⟩⟩
      · have HE : Hid (∀ w1, w.grownBy w1 none → Found p w (.returned (.int .i64 j)) w1) := Lib.hid (fun w1 hg => ⟨j, rfl, by rw [HN.out rfl]; simp, hg⟩)
        go_wp2_with fail
        refine HC.out.mono ?_
        rintro e w1 ⟨rfl, hg⟩
        have HG1 := Lib.hid (HG.out.trans hg)
        clear hg
        go_wp2
        go_ret
        exact HE.out _ HG1.out
set_option maxHeartbeats 400000 in
theorem contains_any (p : Par) (g ga : Nat) (t : TypeId) (w : World) (hp : p.ok) (hT : TabsAt w) (hb : Bk w g 24 p.cells) (ha : Bk w ga t (fvs g).toArray) :
    Calls Tryd.prog 44 #[.slice (some ⟨ga, 0, none⟩) 10 10, .func (.func 45) #[] #[]] w fun e w' => e = .returned (.bool (!mayP p)) ∧ w.grownBy w' none := by
  have HI := Lib.hid (index_any p g ga t w hp hT hb ha)
  clear hp hT hb ha
  go_enter Tryd.func44, Tryd.ntmps44
  go_wp2_with fail
  refine HI.out.mono ?_
  rintro e w1 ⟨n, rfl, hn, hg⟩
  have HN := Lib.hid hn
  have HG := Lib.hid hg
  clear hn hg
  go_wp2
  go_ret
  exact ⟨ret_bool HN.out, HG.out⟩
set_option maxHeartbeats 400000 in
theorem may_any (p : Par) (w : World) (hp : p.ok) (hT : TabsAt w) :
    Calls Tryd.prog 7 #[p.v] w fun e w' => e = .returned (.bool (mayP p)) ∧ w.grownBy w' none := by
  have hg1 : w.grownBy (w.alloc (Obj.cells p.cells 24)) none := World.grownBy_alloc w _ none
  have hg2 := World.grownBy_alloc (w.alloc (Obj.cells p.cells 24)) (Obj.cells (fvs w.heap.size).toArray 26) none
  have HC := Lib.hid (contains_any p w.heap.size (w.heap.size + 1) 26 ((w.alloc (Obj.cells p.cells 24)).alloc (Obj.cells (fvs w.heap.size).toArray 26)) hp (hT.kept (hg1.trans hg2)) ((Bk.new w _ _).alloc _)
    (by have := Bk.new (w.alloc (Obj.cells p.cells 24)) 26 (fvs w.heap.size).toArray; rwa [World.size_alloc] at this))
  have HGR := Lib.hid (hg1.trans hg2)
  clear hp hT hg1 hg2
  unfold fvs at HC HGR
  go_enter Tryd.func7, Tryd.ntmps7
  go_wp2_with fail
  refine HC.out.mono ?_
  rintro e w1 ⟨rfl, hg⟩
  have HG := Lib.hid (HGR.out.trans hg)
  clear hg
  go_wp2
  go_ret
  exact ⟨ret_bool (by simp), HG.out⟩
end Go.Proofs.YtmjdpmfcbeaecaaDoor

namespace Go.Proofs.YtmjdpmfcbeaecaaDoor
open Go.RowKit

theorem m_may (P : Int) (h1 : 1 ≤ P) (h2 : P ≤ 2305843009213693952) : mayB P = true := by simp [mayB]; omega
theorem may_bds {m : Int} (h : mayB m = true) : 0 < m ∧ m ≤ 2305843009213693952 := by simpa [mayB] using h
theorem times_nil_eq (P : Int) (hm : mayB P = true) : timesI P [] = 1 % P := by
  show mulI 1 1 P = _
  rw [mulI_yes _ _ _ hm, Int.mul_one]
theorem times_two_eq (P a b : Int) (hm : mayB P = true) : timesI P [a, b] = a * b % P := by
  show mulI (mulI (mulI 1 1 P) a P) b P = _
  rw [mulI_yes _ _ _ hm, mulI_yes _ _ _ hm, mulI_yes _ _ _ hm, Int.mul_one]
  exact ((Cg.mod P _).trans ((Cg.mod P 1).mul_right a |>.trans (Cg.of_eq (Int.one_mul a)))).mul_right b
theorem times_two_cg (P a b : Int) (hm : mayB P = true) : Cg P (timesI P [a, b]) (a * b) := by
  rw [times_two_eq _ _ _ hm]
  exact Cg.mod _ _
theorem powI_yes (a e P : Int) (hm : mayB P = true) : powI a e P = a ^ e.toNat % P := by simp [powI, hm]
theorem powI_cg (a e P : Int) (hm : mayB P = true) : Cg P (powI a e P) (a ^ e.toNat) := by
  rw [powI_yes _ _ _ hm]
  exact Cg.mod _ _
theorem powI_base {a b e P : Int} (hm : mayB P = true) (h : Cg P a b) : powI a e P = powI b e P := by
  rw [powI_yes _ _ _ hm, powI_yes _ _ _ hm]
  exact h.pow _
/-- What two things are that are the same modulo P and are told modulo P. -/
theorem pow_unit {P x : Int} {n : Nat} (h : Cg P (x ^ n) 1) (k : Nat) : Cg P (x ^ k) (x ^ (k % n)) := by
  have e : x ^ k = (x ^ n) ^ (k / n) * x ^ (k % n) := by
    rw [← Int.pow_mul, ← Int.pow_add, Nat.div_add_mod]
  rw [e]
  refine ((h.pow (k / n)).mul_right _).trans (Cg.of_eq ?_)
  rw [Int.one_pow, Int.one_mul]
theorem toNat_mod (e Q : Int) (he : 0 ≤ e) (hQ : 0 < Q) : (e % Q).toNat = e.toNat % Q.toNat := by
  obtain ⟨a, rfl⟩ := Int.eq_ofNat_of_zero_le he
  obtain ⟨b, rfl⟩ := Int.eq_ofNat_of_zero_le (Int.le_of_lt hQ)
  have e : ((a : Int) % (b : Int)) = ((a % b : Nat) : Int) := by simp
  rw [e, Int.toNat_natCast, Int.toNat_natCast, Int.toNat_natCast]
theorem pow_mod {P x Q e : Int} (h : Cg P (x ^ Q.toNat) 1) (he : 0 ≤ e) (hQ : 0 < Q) : Cg P (x ^ (e % Q).toNat) (x ^ e.toNat) := by
  rw [toNat_mod e Q he hQ]
  exact (pow_unit h _).symm
/-- A power by a sum modulo Q. -/
theorem pow_addQ {P x Q e f : Int} (h : Cg P (x ^ Q.toNat) 1) (he : 0 ≤ e) (hf : 0 ≤ f) (hQ : mayB Q = true) : Cg P (x ^ (addI e f Q).toNat) (x ^ e.toNat * x ^ f.toNat) := by
  rw [addI_yes _ _ _ hQ]
  refine (pow_mod h (by omega) (may_bds hQ).1).trans (Cg.of_eq ?_)
  rw [← Int.pow_add, Int.toNat_add he hf]
theorem pow_mulQ {P x Q e f : Int} (h : Cg P (x ^ Q.toNat) 1) (he : 0 ≤ e) (hf : 0 ≤ f) (hQ : mayB Q = true) : Cg P (x ^ (mulI e f Q).toNat) ((x ^ e.toNat) ^ f.toNat) := by
  rw [mulI_yes _ _ _ hQ]
  refine (pow_mod h (Int.mul_nonneg he hf) (may_bds hQ).1).trans (Cg.of_eq ?_)
  rw [← Int.pow_mul, Int.toNat_mul he hf]

/-- What params that may be give. -/
structure Good (p : Par) : Prop where
  P : mayB p.P = true
  Q : mayB p.Q = true
  P2 : 2 ≤ p.P
  Q2 : 2 ≤ p.Q
  G : Cg p.P (p.G ^ p.Q.toNat) 1
  H : Cg p.P (p.H ^ p.Q.toNat) 1
  T : 1 ≤ p.T ∧ p.T ≤ 2
  N : 3 * p.T + 1 ≤ p.N ∧ p.N ≤ 7 ∧ p.N < p.Q
  K : 1 ≤ p.K ∧ p.K ≤ 2
  D : 1 ≤ p.D ∧ p.D ≤ 4
  prime : primeB p.Q = true ∧ primeB p.P = true
  M : 1 ≤ p.M ∧ p.M ≤ 1048576
  X : 1 ≤ p.X ∧ p.X ≤ 1048576
  big : 2 * (p.D * p.M * p.X + p.M) < p.Q
theorem is_cg {p : Par} {x : Int} (hP : mayB p.P = true) (h2 : 2 ≤ p.P) (h : isB p x = true) : Cg p.P (x ^ p.Q.toNat) 1 := by
  simp only [isB, Bool.and_eq_true, beq_iff_eq] at h
  have e := h.2
  rw [powI_yes _ _ _ hP] at e
  unfold Cg
  rw [e, Int.emod_eq_of_lt (by decide) (by omega)]
theorem good_of {p : Par} (h : mayP p = true) : Good p := by
  simp only [mayP, m1, m2, m3, m4, m5, m6, m7, m8, m9, m10, Bool.and_eq_true, withinB_iff, decide_eq_true_eq, beq_iff_eq] at h
  obtain ⟨⟨⟨⟨⟨⟨⟨⟨⟨⟨⟨⟨a1, a2⟩, a3⟩, a4⟩, b1, b2⟩, ⟨c1, c2⟩, c3⟩, d1⟩, ⟨e1, e2⟩, f1, f2⟩, g1⟩, ⟨i1, i2⟩, j1, j2⟩, k1⟩, l1, l2⟩, ⟨⟨n1, n2⟩, n3⟩, n4⟩ := h
  have hP := m_may p.P (by omega) a2
  have hd : p.Q ∣ p.P - 1 := Int.dvd_of_emod_eq_zero a4
  have hQ : p.Q ≤ p.P - 1 := Int.le_of_dvd (by omega) hd
  exact ⟨hP, m_may p.Q (by omega) (by omega), a1, a3, is_cg hP a1 n2, is_cg hP a1 n4, ⟨b1, b2⟩, ⟨c1, c2, c3⟩, ⟨e1, e2⟩, ⟨f1, f2⟩, ⟨l1, l2⟩, ⟨i1, i2⟩, ⟨j1, j2⟩, k1⟩

theorem pow_group {P g Q a : Int} (hm : mayB P = true) (h : Cg P (g ^ Q.toNat) 1) : Cg P ((powI g a P) ^ Q.toNat) 1 := by
  refine ((powI_cg g a P hm).pow _).trans ?_
  rw [← Int.pow_mul, Nat.mul_comm, Int.pow_mul]
  exact (h.pow _).trans (Cg.of_eq Int.one_pow)
/-- GroupPowers's three. -/
theorem powers_1 {P x Q e f : Int} (hm : mayB P = true) (hQ : mayB Q = true) (h : Cg P (x ^ Q.toNat) 1) (he : 0 ≤ e) (hf : 0 ≤ f) : timesI P [powI x e P, powI x f P] = powI x (addI e f Q) P := by
  rw [times_two_eq _ _ _ hm, powI_yes _ _ _ hm, powI_yes _ _ _ hm, powI_yes _ _ _ hm]
  exact (((Cg.mod P _).mul (Cg.mod P _)).trans (pow_addQ h he hf hQ).symm)
theorem powers_2 {P x Q e : Int} (hm : mayB P = true) (hQ : mayB Q = true) (h : Cg P (x ^ Q.toNat) 1) (he : 0 ≤ e) : powI x e P = powI x (e % Q) P := by
  rw [powI_yes _ _ _ hm, powI_yes _ _ _ hm]
  exact (pow_mod h he (may_bds hQ).1).symm
theorem powers_3 {P x Q e f : Int} (hm : mayB P = true) (hQ : mayB Q = true) (h : Cg P (x ^ Q.toNat) 1) (he : 0 ≤ e) (hf : 0 ≤ f) : powI (powI x e P) f P = powI x (mulI e f Q) P := by
  rw [powI_base hm (powI_cg x e P hm), powI_yes _ _ _ hm, powI_yes _ _ _ hm]
  exact (pow_mulQ h he hf hQ).symm

theorem commit_eq (p : Par) (x : Int × Int) (hm : mayB p.P = true) : commitI p x = p.G ^ x.1.toNat * p.H ^ x.2.toNat % p.P := by
  unfold commitI
  rw [times_two_eq _ _ _ hm]
  exact (powI_cg _ _ _ hm).mul (powI_cg _ _ _ hm)
theorem commit_cg (p : Par) (x : Int × Int) (hm : mayB p.P = true) : Cg p.P (commitI p x) (p.G ^ x.1.toNat * p.H ^ x.2.toNat) := by
  rw [commit_eq _ _ hm]
  exact Cg.mod _ _
theorem mul4 (a b c d : Int) : a * b * (c * d) = a * c * (b * d) := by
  rw [Int.mul_assoc, Int.mul_assoc, ← Int.mul_assoc b c d, Int.mul_comm b c, Int.mul_assoc c b d]
/-- The product of commitments is the one to the sums. -/
theorem sums_1 {p : Par} (h : Good p) (x y : Int × Int) (x1 : 0 ≤ x.1) (x2 : 0 ≤ x.2) (y1 : 0 ≤ y.1) (y2 : 0 ≤ y.2) : timesI p.P [commitI p x, commitI p y] = commitI p (addI x.1 y.1 p.Q, addI x.2 y.2 p.Q) := by
  rw [times_two_eq _ _ _ h.P, commit_eq p (addI x.1 y.1 p.Q, addI x.2 y.2 p.Q) h.P]
  refine ((commit_cg _ _ h.P).mul (commit_cg _ _ h.P)).trans ?_
  rw [mul4]
  exact ((pow_addQ h.G x1 y1 h.Q).mul (pow_addQ h.H x2 y2 h.Q)).symm
/-- A power of a commitment is the one to the multiples. -/
theorem sums_2 {p : Par} (h : Good p) (x : Int × Int) (k : Int) (x1 : 0 ≤ x.1) (x2 : 0 ≤ x.2) (hk : 0 ≤ k) : powI (commitI p x) k p.P = commitI p (mulI x.1 k p.Q, mulI x.2 k p.Q) := by
  rw [powI_yes _ _ _ h.P, commit_eq p (mulI x.1 k p.Q, mulI x.2 k p.Q) h.P]
  refine ((commit_cg _ _ h.P).pow _).trans ?_
  rw [Int.mul_pow]
  exact ((pow_mulQ h.G x1 hk h.Q).mul (pow_mulQ h.H x2 hk h.Q)).symm

/-- The values of polynomials, as the law reckons them. -/
def valGo (Q i : Int) : List (Int × Int) → Int × Int → Int → Int × Int
  | [], v, _ => v
  | y :: l, v, e => valGo Q i l (addI v.1 (mulI y.1 e Q) Q, addI v.2 (mulI y.2 e Q) Q) (mulI e i Q)
theorem commit_zero {p : Par} (h : Good p) : commitI p (0, 0) = timesI p.P [] := by
  rw [commit_eq _ _ h.P, times_nil_eq _ h.P]
  simp
theorem at_val {p : Par} (h : Good p) (i : Int) (hi : 0 ≤ i) : ∀ (l : List (Int × Int)) (v : Int × Int) (e : Int), (∀ y ∈ l, 0 ≤ y.1 ∧ 0 ≤ y.2) → 0 ≤ v.1 → 0 ≤ v.2 → 0 ≤ e →
    atGo p i (l.map (commitI p)) (commitI p v) e = commitI p (valGo p.Q i l v e)
  | [], v, e, _, _, _, _ => rfl
  | y :: l, v, e, hl, h1, h2, he => by
    obtain ⟨y1, y2⟩ := hl y (by simp)
    have k1 := mulI_U64 y.1 e p.Q
    have k2 := mulI_U64 y.2 e p.Q
    have k3 := mulI_U64 e i p.Q
    have k4 := addI_U64 v.1 (mulI y.1 e p.Q) p.Q
    have k5 := addI_U64 v.2 (mulI y.2 e p.Q) p.Q
    show atGo p i (l.map (commitI p)) (timesI p.P [commitI p v, powI (commitI p y) e p.P]) (mulI e i p.Q) = _
    rw [sums_2 h y e y1 y2 he, sums_1 h v _ h1 h2 k1.1 k2.1]
    exact at_val h i hi l _ _ (fun z hz => hl z (by simp [hz])) k4.1 k5.1 k3.1
theorem at_commits {p : Par} (h : Good p) (i : Int) (hi : 0 ≤ i) (l : List (Int × Int)) (hl : ∀ y ∈ l, 0 ≤ y.1 ∧ 0 ≤ y.2) : atI p (l.map (commitI p)) i = commitI p (valGo p.Q i l (0, 0) 1) := by
  unfold atI
  rw [← commit_zero h, show mulI 1 1 p.Q = 1 by rw [mulI_yes _ _ _ h.Q]; exact Int.emod_eq_of_lt (by decide) (by have := h.Q2; omega)]
  exact at_val h i hi l _ _ hl (by decide) (by decide) (by decide)
theorem mulI_modr (e i Q : Int) : mulI e (i % Q) Q = mulI e i Q := by
  simp only [mulI]
  rw [show i % Q % Q = i % Q from Cg.mod Q i]
theorem atGo_mod (p : Par) (i : Int) : ∀ (l : List Int) (x e : Int), atGo p (i % p.Q) l x e = atGo p i l x e
  | [], _, _ => rfl
  | y :: l, x, e => by
    show atGo p (i % p.Q) l _ (mulI e (i % p.Q) p.Q) = atGo p i l _ (mulI e i p.Q)
    rw [mulI_modr]
    exact atGo_mod p i l _ _
theorem at_mod (p : Par) (l : List Int) (i : Int) : atI p l (i % p.Q) = atI p l i := atGo_mod p i l _ _
end Go.Proofs.YtmjdpmfcbeaecaaDoor

namespace Go.Proofs.YtmjdpmfcbeaecaaDoor
open Go.RowKit

theorem hasInv_of {a m x : Int} (hm : 0 < m) (h : Cg m (a * x) 1) : HasInv a m :=
  ⟨x % m, Int.emod_nonneg _ (by omega), Int.emod_lt_of_pos _ hm, ((Cg.mod m x).mul_left a).trans h⟩
theorem hasInv_cg {a b m : Int} (h : HasInv a m) (k : Cg m b a) : HasInv b m := by
  obtain ⟨x, h0, h1, hx⟩ := h
  exact ⟨x, h0, h1, (k.mul_right x).trans hx⟩
theorem hasInv_mul {a b m : Int} (hm : 0 < m) (h : HasInv a m) (k : HasInv b m) : HasInv (a * b) m := by
  obtain ⟨x, _, _, hx⟩ := h
  obtain ⟨y, _, _, hy⟩ := k
  refine hasInv_of hm (x := x * y) ((Cg.of_eq ?_).trans (hx.mul hy))
  rw [Int.mul_assoc, Int.mul_assoc, ← Int.mul_assoc b, Int.mul_comm b x, Int.mul_assoc]
theorem hasInv_neg {a m : Int} (hm : 0 < m) (h : HasInv a m) : HasInv (-a) m := by
  obtain ⟨x, _, _, hx⟩ := h
  exact hasInv_of hm (x := -x) ((Cg.of_eq (Int.neg_mul_neg a x)).trans hx)
theorem hasInv_lin {a q k x : Int} (hq : 0 < q) (h : a * x = k * q + 1) : HasInv a q := hasInv_of hq (x := x) (Cg.of_dvd ⟨k, by rw [h, Int.mul_comm]; omega⟩)
theorem hasInv_two {q : Int} (hq : 0 < q) (h : q % 2 ≠ 0) : HasInv 2 q := hasInv_lin hq (k := 1) (x := (q + 1) / 2) (by omega)
theorem hasInv_three {q : Int} (hq : 0 < q) (h : q % 3 ≠ 0) : HasInv 3 q := by
  have h3 : q % 3 = 1 ∨ q % 3 = 2 := by omega
  rcases h3 with h3 | h3
  · exact hasInv_lin hq (k := 2) (x := (2 * q + 1) / 3) (by omega)
  · exact hasInv_lin hq (k := 1) (x := (q + 1) / 3) (by omega)
theorem hasInv_five {q : Int} (hq : 0 < q) (h : q % 5 ≠ 0) : HasInv 5 q := by
  have h5 : q % 5 = 1 ∨ q % 5 = 2 ∨ q % 5 = 3 ∨ q % 5 = 4 := by omega
  rcases h5 with h5 | h5 | h5 | h5
  · exact hasInv_lin hq (k := 4) (x := (4 * q + 1) / 5) (by omega)
  · exact hasInv_lin hq (k := 2) (x := (2 * q + 1) / 5) (by omega)
  · exact hasInv_lin hq (k := 3) (x := (3 * q + 1) / 5) (by omega)
  · exact hasInv_lin hq (k := 1) (x := (q + 1) / 5) (by omega)
/-- Numbers from 1 to below n have inverses. -/
def Apart (q : Int) (n : Int) : Prop := ∀ d, 1 ≤ d → d < n → HasInv d q
theorem prime_small {q : Int} (h : primeB q = true) : (q % 2 = 0 → q = 2) ∧ (q % 3 = 0 → q = 3 ∨ q % 2 = 0) ∧ (q % 5 = 0 → q = 5 ∨ q % 2 = 0 ∨ q % 3 = 0) := by
  unfold primeB at h
  split at h
  · cases h
  · unfold triedL at h
    refine ⟨fun h2 => ?_, fun h3 => ?_, fun h5 => ?_⟩
    · simp only [goB, h2, if_true] at h
      simpa using h
    · by_cases h2 : q % 2 = 0
      · exact .inr h2
      · simp only [goB, h2, if_false, h3, if_true] at h
        left
        split at h
        · simpa using h
        · cases h
    · by_cases h2 : q % 2 = 0
      · exact .inr (.inl h2)
      · by_cases h3 : q % 3 = 0
        · exact .inr (.inr h3)
        · simp only [goB, h2, if_false, h3, h5, if_true] at h
          left
          split at h
          · split at h
            · simpa using h
            · cases h
          · cases h
theorem may_apart {p : Par} (h : mayP p = true) : mayB p.Q = true ∧ mayB p.P = true ∧ Apart p.Q p.N ∧ 4 ≤ p.N ∧ p.N ≤ 7 ∧ p.N < p.Q ∧ 1 ≤ p.T ∧ p.T ≤ 2 ∧ 3 * p.T + 1 ≤ p.N ∧ smallB p = true ∧ 1 ≤ p.K ∧ 1 ≤ p.D := by
  simp only [mayP, m1, m2, m3, m5, m9, Bool.and_eq_true, withinB_iff, decide_eq_true_eq] at h
  obtain ⟨⟨⟨⟨⟨⟨⟨⟨⟨a1, a2⟩, a3⟩, _⟩, a5⟩, _⟩, _⟩, _⟩, a9⟩, _⟩ := h
  obtain ⟨⟨⟨p1, p2⟩, q1⟩, pq⟩ := a1
  obtain ⟨t1, t2⟩ := a2
  obtain ⟨⟨n1, n2⟩, n3⟩ := a3
  obtain ⟨⟨k1, k2⟩, d1, d2⟩ := a5
  obtain ⟨hq, hp⟩ := a9
  have hQ : p.Q ≤ 2305843009213693952 := by
    unfold primeB at hq
    split at hq
    · cases hq
    · omega
  obtain ⟨s2, s3, s5⟩ := prime_small hq
  have hq0 : 0 < p.Q := by omega
  have i2 : HasInv 2 p.Q := hasInv_two hq0 fun e => by have := s2 e; omega
  have i3 : HasInv 3 p.Q := hasInv_three hq0 fun e => by
    rcases s3 e with e | e
    · omega
    · have := s2 e; omega
  have i1 : HasInv 1 p.Q := hasInv_lin hq0 (k := 0) (x := 1) (by omega)
  refine ⟨by simp [mayB]; omega, by simp [mayB]; omega, fun d e1 e2 => ?_, by omega, n2, n3, t1, t2, n1, by simp [smallB]; omega, k1, d1⟩
  have hd : d = 1 ∨ d = 2 ∨ d = 3 ∨ d = 4 ∨ d = 5 ∨ d = 6 := by omega
  rcases hd with rfl | rfl | rfl | rfl | rfl | rfl
  · exact i1
  · exact i2
  · exact i3
  · exact hasInv_mul hq0 i2 i2
  · refine hasInv_five hq0 fun e => ?_
    rcases s5 e with e | e | e
    · omega
    · have := s2 e; omega
    · rcases s3 e with e | e
      · omega
      · have := s2 e; omega
  · exact hasInv_mul hq0 i2 i3
def prodZ (l : List Int) : Int := l.foldr (· * ·) 1
theorem prodZ_append (a b : List Int) : prodZ (a ++ b) = prodZ a * prodZ b := by
  induction a with
  | nil => simp [prodZ]
  | cons x a ih =>
    show x * prodZ (a ++ b) = x * prodZ a * prodZ b
    rw [ih, Int.mul_assoc]
theorem prodZ_reverse (l : List Int) : prodZ l.reverse = prodZ l := by
  induction l with
  | nil => rfl
  | cons x l ih =>
    rw [List.reverse_cons, prodZ_append, ih]
    show prodZ l * (x * 1) = x * prodZ l
    rw [Int.mul_one, Int.mul_comm]
theorem foldl_mul_cg (q : Int) (hq : mayB q = true) : ∀ (l : List Int) (s : Int), Cg q (l.foldl (fun s y => mulI s y q) s) (s * prodZ l)
  | [], s => Cg.of_eq (Int.mul_one s).symm
  | y :: l, s => by
    refine (foldl_mul_cg q hq l (mulI s y q)).trans ?_
    show Cg q _ (s * (y * prodZ l))
    rw [← Int.mul_assoc]
    refine Cg.mul_right ?_ _
    rw [mulI_yes _ _ _ hq]
    exact Cg.mod _ _
theorem foldl_mul_bd (q : Int) (hq : mayB q = true) : ∀ (l : List Int) (s : Int), 0 ≤ s → s < q → 0 ≤ l.foldl (fun s y => mulI s y q) s ∧ l.foldl (fun s y => mulI s y q) s < q
  | [], _, h1, h2 => ⟨h1, h2⟩
  | y :: l, s, _, _ => foldl_mul_bd q hq l _ (mulI_bd s y q hq).1 (mulI_bd s y q hq).2
theorem mayB_pos {q : Int} (hq : mayB q = true) : 0 < q := by simp [mayB] at hq; exact hq.1
theorem prodI_eq (q : Int) (hq : mayB q = true) (l : List Int) : prodI q l = prodZ l % q := by
  have h0 := mayB_pos hq
  have h1 := foldl_mul_cg q hq l (1 % q)
  have h2 := foldl_mul_bd q hq l (1 % q) (Int.emod_nonneg _ (by omega)) (Int.emod_lt_of_pos _ h0)
  have h3 : Cg q (prodI q l) (prodZ l) := h1.trans (((Cg.mod q 1).mul_right _).trans (Cg.of_eq (Int.one_mul _)))
  unfold Cg at h3
  rw [← h3]
  exact (Int.emod_eq_of_lt h2.1 h2.2).symm
theorem hasInv_prod {q : Int} (hq : 0 < q) : ∀ (l : List Int), (∀ x ∈ l, HasInv x q) → HasInv (prodZ l) q
  | [], _ => hasInv_lin hq (k := 0) (x := 1) (by show (1 : Int) * 1 = _; omega)
  | x :: l, h => hasInv_mul hq (h x (by simp)) (hasInv_prod hq l fun y hy => h y (by simp [hy]))
theorem subI_cg (x y q : Int) (hq : mayB q = true) : Cg q (subI x y q) (x - y) := by
  rw [subI_yes _ _ _ hq]
  exact Cg.mod _ _
/-- Places from 1 to n, each once. -/
def Places (n : Int) (xs : List Int) : Prop := (∀ x ∈ xs, 1 ≤ x ∧ x ≤ n) ∧ xs.Nodup
theorem Places.rev {n : Int} {xs : List Int} (h : Places n xs) : Places n xs.reverse := ⟨fun x hx => h.1 x (List.mem_reverse.1 hx), (List.pairwise_reverse (R := (· ≠ ·))).2 (List.Pairwise.imp Ne.symm h.2)⟩
theorem under_inv {q n : Int} {xs : List Int} (hq : mayB q = true) (ha : Apart q n) (hp : Places n xs) (at_ : Int) (i : Nat) (hi : i < xs.length) : HasInv (underI q xs at_ i) q := by
  have h0 := mayB_pos hq
  unfold underI
  rw [prodI_eq _ hq]
  refine hasInv_cg (hasInv_prod h0 _ fun x hx => ?_) (Cg.mod _ _)
  obtain ⟨⟨a, b⟩, hab, rfl⟩ := List.mem_map.1 hx
  simp only [othersI, othersUp, List.mem_map, List.mem_filter, List.mem_range, bne_iff_ne] at hab
  obtain ⟨j, ⟨hj, hne⟩, he⟩ := hab
  have he1 : a = subI (xs[i]?.getD 0) (xs[j]?.getD 0) q := (congrArg Prod.fst he).symm
  show HasInv a q
  rw [he1]
  refine hasInv_cg ?_ (subI_cg _ _ _ hq)
  rw [List.getElem?_eq_getElem hi, List.getElem?_eq_getElem hj, Option.getD_some, Option.getD_some]
  have hx1 := hp.1 _ (List.getElem_mem hi)
  have hx2 := hp.1 _ (List.getElem_mem hj)
  have hne' : xs[i] ≠ xs[j] := fun e => hne ((List.getElem?_inj hi hp.2).1 (by rw [List.getElem?_eq_getElem hi, List.getElem?_eq_getElem hj, e])).symm
  rcases Int.lt_or_gt_of_ne hne' with h | h
  · have := hasInv_neg h0 (ha (xs[j] - xs[i]) (by omega) (by omega))
    rwa [show -(xs[j] - xs[i]) = xs[i] - xs[j] by omega] at this
  · exact ha (xs[i] - xs[j]) (by omega) (by omega)
theorem seenL_nodup : ∀ (l : List Int), l.Nodup → seenL l = l := by
  intro l
  have key : ∀ (n : Nat) (l : List Int), l.length = n → l.Nodup → seenL l = l := by
    intro n
    induction n with
    | zero => intro l h _; rw [List.eq_nil_of_length_eq_zero h]; rfl
    | succ n ih =>
      intro l h hn
      rcases List.eq_nil_or_concat l with rfl | ⟨l', x, rfl⟩
      · simp at h
      · rw [List.concat_eq_append] at h hn ⊢
        have hl : l'.length = n := by simpa using h
        obtain ⟨h1, _, h3⟩ := List.nodup_append.1 hn
        rw [seenL_snoc, ih l' hl h1]
        have : l'.contains x = false := by
          rw [Bool.eq_false_iff]
          intro hc
          exact h3 x (List.contains_iff_mem.1 hc) x (by simp) rfl
        rw [this]
        rfl
  exact key l.length l rfl
theorem werr_zero {q n : Int} {xs : List Int} (hq : mayB q = true) (ha : Apart q n) (hn : n < q) (hp : Places n xs) (hl : xs.length ≤ 1024) (at_ : Int) : wErr q xs at_ = 0 := by
  have hm : xs.map (· % q) = xs := by
    refine (List.map_congr_left fun x hx => ?_).trans (List.map_id' xs)
    have := hp.1 x hx
    exact Int.emod_eq_of_lt (by omega) (by omega)
  have hu : unlikeI xs q = 0 := by
    unfold unlikeI
    rw [hm, seenL_nodup xs hp.2, if_neg (by rw [hq]; simp), if_neg (by omega), if_neg (by omega)]
  unfold wErr
  rw [if_pos hu, if_pos fun i hi => under_inv hq ha hp at_ i hi]
end Go.Proofs.YtmjdpmfcbeaecaaDoor

namespace Go.Proofs.YtmjdpmfcbeaecaaDoor
open Go.RowKit

theorem filter_ne_reverse (n i : Nat) (hi : i < n) : ((List.range n).filter fun j => j != n - 1 - i).map (fun j => n - 1 - j) = ((List.range n).filter fun j => j != i).reverse := by
  have h1 : (List.range n).reverse = (List.range n).map fun j => n - 1 - j := by
    refine List.ext_getElem (by simp) fun k h1 h2 => ?_
    simp
  rw [← List.filter_reverse, h1, List.filter_map]
  refine congrArg (List.map _) (List.filter_congr fun j hj => ?_)
  have := List.mem_range.1 hj
  simp only [Function.comp]
  rw [Bool.eq_iff_iff]
  simp only [bne_iff_ne]
  omega
theorem others_reverse (q : Int) (xs : List Int) (at_ : Int) (i : Nat) (hi : i < xs.length) : othersI q xs.reverse (xs.length - 1 - i) at_ = (othersI q xs i at_).reverse := by
  unfold othersI othersUp
  rw [List.length_reverse, ← List.map_reverse, ← filter_ne_reverse _ _ hi, List.map_map]
  refine List.map_congr_left fun j hj => ?_
  have hj' := List.mem_range.1 (List.mem_filter.1 hj).1
  have e1 : xs.reverse[xs.length - 1 - i]? = xs[i]? := by
    rw [List.getElem?_reverse (by omega)]
    congr 1
    omega
  have e2 : xs.reverse[j]? = xs[xs.length - 1 - j]? := List.getElem?_reverse hj'
  simp only [Function.comp, e1, e2]
theorem under_reverse (q : Int) (hq : mayB q = true) (xs : List Int) (at_ : Int) (i : Nat) (hi : i < xs.length) : underI q xs.reverse at_ (xs.length - 1 - i) = underI q xs at_ i := by
  unfold underI
  rw [others_reverse q xs at_ i hi, List.map_reverse, prodI_eq _ hq, prodI_eq _ hq, prodZ_reverse]
theorem over_reverse (q : Int) (hq : mayB q = true) (xs : List Int) (at_ : Int) (i : Nat) (hi : i < xs.length) : overI q xs.reverse at_ (xs.length - 1 - i) = overI q xs at_ i := by
  unfold overI
  rw [others_reverse q xs at_ i hi, List.map_reverse, prodI_eq _ hq, prodI_eq _ hq, prodZ_reverse]
theorem wlist_reverse {q n : Int} {xs : List Int} (hq : mayB q = true) (ha : Apart q n) (hn : n < q) (hp : Places n xs) (hl : xs.length ≤ 1024) (at_ : Int) : wList q xs.reverse at_ = (wList q xs at_).reverse := by
  unfold wList
  rw [if_pos (werr_zero hq ha hn hp hl at_), if_pos (werr_zero hq ha hn hp.rev (by rw [List.length_reverse]; exact hl) at_)]
  refine List.ext_getElem (by simp) fun k h1 h2 => ?_
  simp only [List.length_map, List.length_range, List.length_reverse] at h1
  rw [List.getElem_map, List.getElem_range, List.getElem_reverse, List.getElem_map, List.getElem_range]
  simp only [List.length_map, List.length_range]
  have h3 := under_reverse q hq xs at_ (xs.length - 1 - k) (by omega)
  have h4 := over_reverse q hq xs at_ (xs.length - 1 - k) (by omega)
  rw [show xs.length - 1 - (xs.length - 1 - k) = k by omega] at h3 h4
  unfold wAt
  rw [h3, h4]
theorem wlist_length {q n : Int} {xs : List Int} (hq : mayB q = true) (ha : Apart q n) (hn : n < q) (hp : Places n xs) (hl : xs.length ≤ 1024) (at_ : Int) : (wList q xs at_).length = xs.length := by
  unfold wList
  rw [if_pos (werr_zero hq ha hn hp hl at_)]
  simp
def dotZ : List Int → List Int → Int
  | x :: l, k :: ks => x * k + dotZ l ks
  | _, _ => 0
theorem dotZ_append : ∀ (l ks l2 ks2 : List Int), l.length = ks.length → dotZ (l ++ l2) (ks ++ ks2) = dotZ l ks + dotZ l2 ks2
  | [], [], _, _, _ => by simp [dotZ]
  | x :: l, k :: ks, l2, ks2, h => by
    show x * k + dotZ (l ++ l2) (ks ++ ks2) = x * k + dotZ l ks + dotZ l2 ks2
    rw [dotZ_append l ks l2 ks2 (by simpa using h)]
    omega
theorem dotZ_reverse : ∀ (l ks : List Int), l.length = ks.length → dotZ l.reverse ks.reverse = dotZ l ks
  | [], [], _ => rfl
  | x :: l, k :: ks, h => by
    rw [List.reverse_cons, List.reverse_cons, dotZ_append _ _ _ _ (by simpa using h), dotZ_reverse l ks (by simpa using h)]
    show dotZ l ks + (x * k + 0) = x * k + dotZ l ks
    omega
theorem comeP_eq (q : Int) (hq : mayB q = true) : ∀ (l : List (Int × Int)) (ks : List Int) (a : Int × Int), l.length = ks.length → 0 ≤ a.1 → a.1 < q → 0 ≤ a.2 → a.2 < q → comeP q l ks a = ((a.1 + dotZ (l.map (·.1)) ks) % q, (a.2 + dotZ (l.map (·.2)) ks) % q)
  | [], [], a, _, h1, h2, h3, h4 => by
    show a = ((a.1 + 0) % q, (a.2 + 0) % q)
    rw [Int.add_zero, Int.add_zero, Int.emod_eq_of_lt h1 h2, Int.emod_eq_of_lt h3 h4]
  | x :: l, k :: ks, a, h, _, _, _, _ => by
    show comeP q l ks _ = _
    rw [comeP_eq q hq l ks _ (by simpa using h) (addI_bd _ _ _ hq).1 (addI_bd _ _ _ hq).2 (addI_bd _ _ _ hq).1 (addI_bd _ _ _ hq).2]
    have key : ∀ (s y d : Int), (addI s (mulI y k q) q + d) % q = (s + (y * k + d)) % q := fun s y d => by
      rw [addI_yes _ _ _ hq, mulI_yes _ _ _ hq]
      have h1 : Cg q ((s + y * k % q) % q + d) (s + (y * k + d)) := by
        refine (Cg.add ((Cg.mod q _).trans (Cg.add (Cg.refl q s) (Cg.mod q _))) (Cg.refl q d)).trans (Cg.of_eq ?_)
        omega
      exact h1
    rw [key, key]
    rfl
theorem comeP_reverse (q : Int) (hq : mayB q = true) (l : List (Int × Int)) (ks : List Int) (h : l.length = ks.length) : comeP q l.reverse ks.reverse (0, 0) = comeP q l ks (0, 0) := by
  have h0 := mayB_pos hq
  rw [comeP_eq q hq _ _ _ (by simpa using h) (Int.le_refl 0) h0 (Int.le_refl 0) h0, comeP_eq q hq _ _ _ h (Int.le_refl 0) h0 (Int.le_refl 0) h0, List.map_reverse, List.map_reverse, dotZ_reverse _ _ (by simpa using h), dotZ_reverse _ _ (by simpa using h)]
def powZ : List Int → List Int → Int
  | x :: l, k :: ks => x ^ k.toNat * powZ l ks
  | _, _ => 1
theorem powZ_append : ∀ (l ks l2 ks2 : List Int), l.length = ks.length → powZ (l ++ l2) (ks ++ ks2) = powZ l ks * powZ l2 ks2
  | [], [], _, _, _ => by simp [powZ]
  | x :: l, k :: ks, l2, ks2, h => by
    show x ^ k.toNat * powZ (l ++ l2) (ks ++ ks2) = x ^ k.toNat * powZ l ks * powZ l2 ks2
    rw [powZ_append l ks l2 ks2 (by simpa using h), Int.mul_assoc]
theorem powZ_reverse : ∀ (l ks : List Int), l.length = ks.length → powZ l.reverse ks.reverse = powZ l ks
  | [], [], _ => rfl
  | x :: l, k :: ks, h => by
    rw [List.reverse_cons, List.reverse_cons, powZ_append _ _ _ _ (by simpa using h), powZ_reverse l ks (by simpa using h)]
    show powZ l ks * (x ^ k.toNat * 1) = x ^ k.toNat * powZ l ks
    rw [Int.mul_one, Int.mul_comm]
theorem comeU_eq (P : Int) (hP : mayB P = true) : ∀ (l ks : List Int) (a : Int), l.length = ks.length → 0 ≤ a → a < P → comeU P l ks a = a * powZ l ks % P
  | [], [], a, _, h1, h2 => by
    show a = a * 1 % P
    rw [Int.mul_one, Int.emod_eq_of_lt h1 h2]
  | x :: l, k :: ks, a, h, _, _ => by
    have h0 := mayB_pos hP
    show comeU P l ks (timesI P [a, powI x k P]) = _
    have e : timesI P [a, powI x k P] = a * powI x k P % P := times_two_eq P _ _ hP
    rw [comeU_eq P hP l ks _ (by simpa using h) (by rw [e]; exact Int.emod_nonneg _ (by omega)) (by rw [e]; exact Int.emod_lt_of_pos _ h0), e]
    have h1 : Cg P (a * powI x k P % P * powZ l ks) (a * (x ^ k.toNat * powZ l ks)) := by
      refine (((Cg.mod P _).trans (Cg.mul_left (by unfold powI; rw [if_pos hP]; exact Cg.mod P _) a)).mul_right _).trans (Cg.of_eq ?_)
      rw [Int.mul_assoc]
    exact h1
theorem comeU_reverse (P : Int) (hP : mayB P = true) (l ks : List Int) (a : Int) (h : l.length = ks.length) (h1 : 0 ≤ a) (h2 : a < P) : comeU P l.reverse ks.reverse a = comeU P l ks a := by
  rw [comeU_eq P hP _ _ _ (by simpa using h) h1 h2, comeU_eq P hP _ _ _ h h1 h2, powZ_reverse _ _ h]
theorem times_nil_bd (P : Int) (hP : mayB P = true) : 0 ≤ timesI P [] ∧ timesI P [] < P := by
  rw [times_nil_eq P hP]
  exact ⟨Int.emod_nonneg _ (by have := mayB_pos hP; omega), Int.emod_lt_of_pos _ (mayB_pos hP)⟩
/-- The weight of a place alone. -/
theorem wlist_one {q n : Int} (hq : mayB q = true) (hq1 : 1 < q) (ha : Apart q n) (hn : n < q) (x : Int) (hx : 1 ≤ x ∧ x ≤ n) (at_ : Int) : wList q [x] at_ = [1] := by
  have hp : Places n [x] := ⟨fun y hy => by rw [List.mem_singleton.1 hy]; exact hx, by simp⟩
  unfold wList
  rw [if_pos (werr_zero hq ha hn hp (by simp) at_)]
  have h1 : (1 : Int) % q = 1 := Int.emod_eq_of_lt (by omega) hq1
  have hu : underI q [x] at_ 0 = 1 := by unfold underI; rw [prodI_eq _ hq]; exact h1
  have ho : overI q [x] at_ 0 = 1 := by unfold overI; rw [prodI_eq _ hq]; exact h1
  have hi : invI 1 q = 1 := invI_eq (by omega) hq1 (Cg.of_eq (by decide))
  show [wAt q [x] at_ 0] = [1]
  unfold wAt
  rw [hu, ho, hi, mulI_yes _ _ _ hq]
  exact congrArg (fun z => [z]) h1
end Go.Proofs.YtmjdpmfcbeaecaaDoor

namespace Go.Proofs.YtmjdpmfcbeaecaaDoor
open Go.RowKit

/-- Params, and members with their pairs, as a statement has them. -/
structure MemOk (p : Par) (at_ : List Int) (l : List (List (Int × Int))) : Prop where
  may : mayP p = true
  places : Places p.N at_
  some : 0 < at_.length
  len : at_.length = l.length
  rows : ∀ x ∈ l, (x.length : Int) = secretsI p
theorem nodup_le : ∀ (l s : List Int), l.Nodup → (∀ x ∈ l, x ∈ s) → l.length ≤ s.length
  | [], _, _, _ => Nat.zero_le _
  | x :: l, s, hn, hs => by
    obtain ⟨h1, h2⟩ := List.nodup_cons.1 hn
    have hx := hs x (by simp)
    have := nodup_le l (s.erase x) h2 fun y hy => (List.mem_erase_of_ne (fun e => h1 (by rw [← e]; exact hy))).2 (hs y (by simp [hy]))
    rw [List.length_erase_of_mem hx] at this
    have h3 := List.length_pos_of_mem hx
    simp only [List.length_cons]
    omega
theorem Places.len {n : Int} {xs : List Int} (h : Places n xs) (hn : n ≤ 7) : xs.length ≤ 7 := by
  refine nodup_le xs [1, 2, 3, 4, 5, 6, 7] h.2 fun x hx => ?_
  · skip
    have := h.1 x hx
    have : x = 1 ∨ x = 2 ∨ x = 3 ∨ x = 4 ∨ x = 5 ∨ x = 6 ∨ x = 7 := by omega
    rcases this with rfl | rfl | rfl | rfl | rfl | rfl | rfl <;> simp
theorem members_of {n : Int} {xs : List Int} (h : Places n xs) (hn : n ≤ 7) (h0 : 0 < xs.length) : membersB xs = true := by
  simp only [membersB, Bool.and_eq_true, decide_eq_true_eq, Bool.not_eq_true']
  refine ⟨h0, List.any_eq_false.2 fun x hx => ?_⟩
  have := h.1 x hx
  simp [memBad]
  omega
theorem sum_good {p : Par} {at_ : List Int} {l : List (List (Int × Int))} (h : MemOk p at_ l) : sumE p at_ l = 0 := by
  obtain ⟨hq, hP, ha, n1, n2, n3, t1, t2, t3, hs, k1, d1⟩ := may_apart h.may
  unfold sumE
  have ho : l.any (fun x => oddB p x) = false := List.any_eq_false.2 fun x hx => by simp [oddB, h.rows x hx]
  rw [hs, members_of h.places n2 h.some, ho, if_pos (by simp [h.len])]
  exact werr_zero hq ha n3 h.places (by have := h.places.len n2; omega) 0
theorem sum_reverse {p : Par} {at_ : List Int} {l : List (List (Int × Int))} (h : MemOk p at_ l) : sumE p at_.reverse l.reverse = 0 ∧ sumL p at_.reverse l.reverse = sumL p at_ l := by
  obtain ⟨hq, hP, ha, n1, n2, n3, t1, t2, t3, hs, k1, d1⟩ := may_apart h.may
  have hr : MemOk p at_.reverse l.reverse := ⟨h.may, h.places.rev, by simpa using h.some, by simpa using h.len, fun x hx => h.rows x (List.mem_reverse.1 hx)⟩
  refine ⟨sum_good hr, ?_⟩
  unfold sumL
  rw [if_pos (sum_good h), if_pos (sum_good hr)]
  refine List.map_congr_left fun s _ => ?_
  rw [wlist_reverse hq ha n3 h.places (by have := h.places.len n2; omega) 0, List.map_reverse]
  refine comeP_reverse _ hq _ _ ?_
  rw [List.length_map, wlist_length hq ha n3 h.places (by have := h.places.len n2; omega) 0, h.len]
theorem sum_one {p : Par} (hm : mayP p = true) (x : Int) (hx : 1 ≤ x ∧ x ≤ p.N) (th : List (Int × Int)) (ht : (th.length : Int) = secretsI p) : sumE p [x] [th] = 0 ∧ sumL p [x] [th] = th.map fun y => (y.1 % p.Q, y.2 % p.Q) := by
  obtain ⟨hq, hP, ha, n1, n2, n3, t1, t2, t3, hs, k1, d1⟩ := may_apart hm
  have h : MemOk p [x] [th] := ⟨hm, ⟨fun y hy => by rw [List.mem_singleton.1 hy]; exact hx, by simp⟩, by simp, rfl, fun y hy => by rw [List.mem_singleton.1 hy]; exact ht⟩
  have h0 := mayB_pos hq
  refine ⟨sum_good h, ?_⟩
  unfold sumL
  rw [if_pos (sum_good h), wlist_one hq (by omega) ha n3 x hx 0]
  refine List.ext_getElem (by simp; omega) fun k k1 k2 => ?_
  simp only [List.length_map, List.length_range] at k1
  have hk : k < th.length := by omega
  rw [List.getElem_map, List.getElem_range, List.getElem_map]
  show comeP p.Q [th[k]?.getD (0, 0)] [1] (0, 0) = _
  rw [List.getElem?_eq_getElem hk, Option.getD_some, comeP_eq _ hq _ _ _ rfl (Int.le_refl 0) h0 (Int.le_refl 0) h0]
  simp [dotZ]
/-- Dealers and what they dealt, as a statement has them. -/
structure Deals (p : Par) (ds : List (Int × List (List Int))) : Prop where
  may : mayP p = true
  places : Places p.N (ds.map (·.1))
  some : 0 < ds.length
  cols : ∀ d ∈ ds, (d.2.length : Int) = secretsI p ∧ ∀ c ∈ d.2, (c.length : Int) = p.T + 1
theorem coms_good {p : Par} {ds : List (Int × List (List Int))} (h : Deals p ds) : comsE p ds = 0 := by
  obtain ⟨hq, hP, ha, n1, n2, n3, t1, t2, t3, hs, k1, d1⟩ := may_apart h.may
  have hw : wrap64 (p.T + 1) = p.T + 1 := wrap64_small (by omega)
  have ho : ds.any (fun d => !((d.2.length : Int) == secretsI p) || d.2.any (shortB p)) = false := List.any_eq_false.2 fun d hd => by
    obtain ⟨c1, c2⟩ := h.cols d hd
    have : d.2.any (shortB p) = false := List.any_eq_false.2 fun c hc => by simp [shortB, hw, c2 c hc]
    simp [c1, this]
  unfold comsE
  rw [hs, ho, members_of h.places n2 (by simpa using h.some), if_pos (by simp; omega)]
  exact werr_zero hq ha n3 h.places (by have := h.places.len n2; omega) 0
theorem Deals.rev {p : Par} {ds : List (Int × List (List Int))} (h : Deals p ds) : Deals p ds.reverse := ⟨h.may, by rw [List.map_reverse]; exact h.places.rev, by simpa using h.some, fun d hd => h.cols d (List.mem_reverse.1 hd)⟩
theorem coms_reverse {p : Par} {ds : List (Int × List (List Int))} (h : Deals p ds) : comsE p ds.reverse = 0 ∧ comsL p ds.reverse = comsL p ds := by
  obtain ⟨hq, hP, ha, n1, n2, n3, t1, t2, t3, hs, k1, d1⟩ := may_apart h.may
  refine ⟨coms_good h.rev, ?_⟩
  have hl : (ds.map (·.1)).length ≤ 1024 := by have := h.places.len n2; omega
  unfold comsL
  rw [if_pos (coms_good h), if_pos (coms_good h.rev)]
  refine List.map_congr_left fun s _ => List.map_congr_left fun j _ => ?_
  rw [List.map_reverse, List.map_reverse, wlist_reverse hq ha n3 h.places hl 0]
  refine comeU_reverse _ hP _ _ _ ?_ (times_nil_bd _ hP).1 (times_nil_bd _ hP).2
  rw [List.length_map, wlist_length hq ha n3 h.places hl 0, List.length_map]
theorem coms_one {p : Par} (x : Int) (col : List (List Int)) (h : Deals p [(x, col)]) (hb : ∀ c ∈ col, ∀ y ∈ c, 0 ≤ y ∧ y < p.P) : comsE p [(x, col)] = 0 ∧ comsL p [(x, col)] = col := by
  obtain ⟨hq, hP, ha, n1, n2, n3, t1, t2, t3, hs, k1, d1⟩ := may_apart h.may
  refine ⟨coms_good h, ?_⟩
  obtain ⟨c1, c2⟩ := h.cols _ (List.mem_singleton.2 rfl)
  have hx := h.places.1 x (by simp)
  unfold comsL
  rw [if_pos (coms_good h)]
  show (List.range (secretsI p).toNat).map (fun s => (List.range (p.T + 1).toNat).map fun j => comeU p.P [(col[s]?.getD [])[j]?.getD 0] (wList p.Q [x] 0) (timesI p.P [])) = col
  rw [wlist_one hq (by omega) ha n3 x hx 0]
  refine List.ext_getElem (by simp at c1 ⊢; omega) fun s s1 s2 => ?_
  rw [List.getElem_map, List.getElem_range, List.getElem?_eq_getElem s2, Option.getD_some]
  have hc := c2 _ (List.getElem_mem s2)
  refine List.ext_getElem (by simp at hc ⊢; omega) fun j j1 j2 => ?_
  rw [List.getElem_map, List.getElem_range, List.getElem?_eq_getElem j2, Option.getD_some, comeU_eq _ hP [col[s][j]] [1] _ rfl (times_nil_bd _ hP).1 (times_nil_bd _ hP).2, times_nil_eq _ hP]
  obtain ⟨b1, b2⟩ := hb _ (List.getElem_mem s2) _ (List.getElem_mem j2)
  show 1 % p.P * (col[s][j] ^ 1 * 1) % p.P = col[s][j]
  rw [Int.pow_succ, Int.pow_zero, Int.one_mul, Int.mul_one]
  have : Cg p.P (1 % p.P * col[s][j]) col[s][j] := ((Cg.mod p.P 1).mul_right _).trans (Cg.of_eq (Int.one_mul _))
  unfold Cg at this
  rw [this]
  exact Int.emod_eq_of_lt b1 b2
end Go.Proofs.YtmjdpmfcbeaecaaDoor
