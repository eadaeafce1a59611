/- A region that draws its order, walked ONCE, in the order of its text: each operation (but for a tail that waits for all of them) leaves what lay there as it was, and tells a value of which something is known in every world grown from the region's first. -/
import Derived.Test.YtnjbigbiclfcoaaDoorEncW
import Derived.Orders
import Derived.StillTail
namespace Go.Proofs.YtnjbigbiclfcoaaDoor
open Go

/-- What is known of a value, and stands as long as nothing that lay there is written. -/
structure Pv where
  p : Value → World → Prop
  st : ∀ {v w w'}, p v w → w.grownBy w' none → p v w'
def Pv.any : Pv := ⟨fun _ _ => True, fun _ _ => trivial⟩
def Pv.eq (u : Value) : Pv := ⟨fun v _ => v = u, fun h _ => h⟩
def Pv.sl {α : Type} (E : Enc α) (X : Nat → Prop) (xs : List α) : Pv := ⟨fun v w => Sl E X w v xs, fun h hg => h.kept hg⟩

section
variable {P : Program} {ops : Array Oper} {Q : Exit → Act → World → Prop} {n : Nat} {a0 : Act} {w0 : World}

def dstAt (ops : Array Oper) (j : Nat) : Option Tmp := (ops[j]?).bind (·.dst)
/-- Slot t is as at the start where operation i may come. -/
def keptB (ops : Array Oper) (n i : Nat) (t : Tmp) : Bool := (List.range n).all fun j => dstAt ops j != some t || Region.waitsFor .any ops j i || j == i
def pairB (ops : Array Oper) (i : Nat) (js : List (Nat × Tmp)) : Bool := js.all fun x => dstAt ops x.1 == some x.2 && Region.waitsFor .any ops i x.1
def lookB (ops : Array Oper) (n i : Nat) (js : List (Nat × Tmp)) : Bool := ((ops[i]?).map fun o => (o.looksAt ops).all fun t => js.any (·.2 == t) || keptB ops n i t).getD false
def Told (V : Pv) (dst : Option Tmp) (ds : List Deferred) (w : World) : Exit → Act → World → Prop := fun e a' w' => e = .normal ∧ a'.defers = ds ∧ V.p (match dst with | some d => a'.eval (.tmp d) | none => undef) w' ∧ w.grownBy w' none
def Ask (P : Program) (ops : Array Oper) (Vs : List Pv) (Qt : Exit → Act → World → Prop) (o : Oper) (w : World) : List (Nat × Tmp) → Act → Prop
  | [], a => wpList P ops Qt [o] a w
  | (j, d) :: js, a => ∀ x, (Vs.getD j Pv.any).p x w → Ask P ops Vs Qt o w js (a.put (some d) x)
def Mono (P : Program) (ops : Array Oper) (n : Nat) (a0 : Act) (w0 : World) (F : List Pv → Prop) : List Pv → List Oper → Prop
  | Vs, [] => F Vs
  | Vs, o :: os => ∃ (V : Pv) (js : List (Nat × Tmp)), (pairB ops Vs.length js && lookB ops n Vs.length js) = true ∧ (∀ w, w0.grownBy w none → Ask P ops Vs (Told V o.dst a0.defers w) o w js a0) ∧ Mono P ops n a0 w0 F (Vs ++ [V]) os
def Fin' (G : Act → World → Prop) (w : World) : List Pv → List Oper → Act → Prop
  | V :: Vs, o :: os, a => ∀ x, V.p x w → Fin' G w Vs os (a.put o.dst x)
  | _, _, a => G a w
/-- What may be listed ahead of operation i. -/
def av (ops : Array Oper) (i : Nat) : Nat → Nat → Bool
  | 0, k => k != i
  | f + 1, k => k != i && ((ops[k]?).map (·.after.all fun e => !Region.binds .any e || av ops i f e.on)).getD false
def tailB (ops : Array Oper) (n : Nat) : Bool :=
  (List.range ops.size).all (fun j => decide (j < n) || (List.range n).all fun i => !av ops i n j) && Region.seqB .any ops (ops.size - n) n (Array.replicate n true ++ Array.replicate (ops.size - n) false)
def topoB (ops : Array Oper) (n : Nat) : Bool := (List.range n).all fun i => ((ops[i]?).map (·.after.all fun e => !Region.binds .any e || decide (e.on < i))).getD false
def distB (ops : Array Oper) (n sz : Nat) : Bool := (List.range n).all fun i => match dstAt ops i with | none => true | some d => decide (d < sz) && (List.range n).all fun j => j == i || dstAt ops j != some d
def monoB (ops : Array Oper) (n sz : Nat) : Bool := Region.noSelect ops && decide (n ≤ ops.size) && tailB ops n && topoB ops n && distB ops n sz

theorem put_tmps (a : Act) (d : Tmp) (v : Value) : (a.put (some d) v).tmps = a.tmps.setIfInBounds d v := rfl
theorem put_size (a : Act) (dst : Option Tmp) (v : Value) : (a.put dst v).tmps.size = a.tmps.size := by
  cases dst <;> simp [Act.put]
theorem put_defers (a : Act) (dst : Option Tmp) (v : Value) : (a.put dst v).defers = a.defers := by
  cases dst <;> rfl
theorem put_at (a : Act) (d t : Tmp) (v : Value) (h : d ≠ t) : (a.put (some d) v).tmps[t]? = a.tmps[t]? := by
  simp [Act.put, Array.getElem?_setIfInBounds_ne h]
theorem eval_of (a b : Act) (t : Tmp) (h : a.tmps[t]? = b.tmps[t]?) : a.eval (.tmp t) = b.eval (.tmp t) := by
  simp [Act.eval, Array.getD_eq_getD_getElem?, h]
theorem put_own (a b : Act) (t : Tmp) (hs : a.tmps.size = b.tmps.size) : (a.put (some t) (b.eval (.tmp t))).tmps[t]? = b.tmps[t]? := by
  by_cases h : t < a.tmps.size
  · have h' : t < b.tmps.size := hs ▸ h
    simp [Act.put, Act.eval, Array.getD_eq_getD_getElem?, h, h']
  · have h' : ¬ t < b.tmps.size := hs ▸ h
    simp [Act.put, h, h']
/-- The values of b put onto a. -/
def onto (b : Act) (ds : List (Option Tmp)) (a : Act) : Act := ds.foldl (fun a d => a.put d (match d with | some d => b.eval (.tmp d) | none => undef)) a
theorem onto_size (b : Act) : ∀ (ds : List (Option Tmp)) (a : Act), (onto b ds a).tmps.size = a.tmps.size
  | [], _ => rfl
  | _ :: ds, _ => (onto_size b ds _).trans (put_size _ _ _)
theorem onto_defers (b : Act) : ∀ (ds : List (Option Tmp)) (a : Act), (onto b ds a).defers = a.defers
  | [], _ => rfl
  | _ :: ds, _ => (onto_defers b ds _).trans (put_defers _ _ _)
theorem onto_at (b : Act) (t : Tmp) : ∀ (ds : List (Option Tmp)) (a : Act), a.tmps.size = b.tmps.size → (some t ∈ ds ∨ a.tmps[t]? = b.tmps[t]?) → (onto b ds a).tmps[t]? = b.tmps[t]?
  | [], a, _, h => h.resolve_left (by simp)
  | d :: ds, a, hs, h => by
    refine onto_at b t ds _ ((put_size _ _ _).trans hs) ?_
    cases d with
    | none => exact h.imp (fun h => by simpa using h) id
    | some d =>
      by_cases e : d = t
      · subst e; exact .inr (put_own a b d hs)
      · refine h.imp (fun h => ?_) (fun h => (put_at a d t _ e).trans h)
        rcases List.mem_cons.1 h with h | h
        · injection h with h; exact absurd h.symm e
        · exact h
theorem act_ext {a b : Act} (h : ∀ t : Nat, a.tmps[t]? = b.tmps[t]?) (hd : a.defers = b.defers) : a = b := by
  obtain ⟨t1, d1⟩ := a
  obtain ⟨t2, d2⟩ := b
  obtain rfl : d1 = d2 := hd
  obtain rfl : t1 = t2 := Array.ext_getElem? h
  rfl

theorem Ask.all {Vs : List Pv} {Qt : Exit → Act → World → Prop} {o : Oper} {w : World} {b : Act} : ∀ {js : List (Nat × Tmp)} {a : Act}, (∀ x : Nat × Tmp, x ∈ js → (Vs.getD x.1 Pv.any).p (b.eval (.tmp x.2)) w) → Ask P ops Vs Qt o w js a → wpList P ops Qt [o] (onto b (js.map fun x => some x.2) a) w
  | [], _, _, h => h
  | (j, d) :: js, a, hx, h => Ask.all (js := js) (fun x hm => hx x (List.mem_cons_of_mem _ hm)) (h _ (hx (j, d) (by simp)))
theorem Fin'.all {G : Act → World → Prop} {w : World} {b : Act} : ∀ {Vs : List Pv} {os : List Oper} {a : Act}, Vs.length = os.length → (∀ (k : Nat) (V : Pv) (o : Oper), Vs[k]? = some V → os[k]? = some o → V.p (match o.dst with | some d => b.eval (.tmp d) | none => undef) w) → Fin' G w Vs os a → G (onto b (os.map (·.dst)) a) w
  | [], [], _, _, _, h => h
  | V :: Vs, o :: os, a, hl, hx, h => Fin'.all (Vs := Vs) (os := os) (by simpa using hl) (fun k V o hv ho => hx (k + 1) V o (by simpa using hv) (by simpa using ho)) (h _ (hx 0 V o rfl rfl))
  | [], _ :: _, _, hl, _, _ => by simp at hl
  | _ :: _, [], _, hl, _, _ => by simp at hl
theorem Mono.out {F : List Pv → Prop} : ∀ {os : List Oper} {Vs : List Pv}, Mono P ops n a0 w0 F Vs os → ∃ Ws : List Pv, Ws.length = os.length ∧ F (Vs ++ Ws) ∧ ∀ k o, os[k]? = some o → ∃ V js, Ws[k]? = some V ∧ (pairB ops (Vs.length + k) js && lookB ops n (Vs.length + k) js) = true ∧ ∀ w, w0.grownBy w none → Ask P ops ((Vs ++ Ws).take (Vs.length + k)) (Told V o.dst a0.defers w) o w js a0
  | [], Vs, h => ⟨[], rfl, by rw [List.append_nil]; exact h, fun k o hk => by simp at hk⟩
  | o :: os, Vs, ⟨V, js, hb, hA, hM⟩ => by
    obtain ⟨Ws, hl, hF, hk⟩ := Mono.out hM
    refine ⟨V :: Ws, by simp [hl], by simpa using hF, fun k o' ho => ?_⟩
    cases k with
    | zero =>
      obtain rfl : o = o' := by simpa using ho
      exact ⟨V, js, rfl, hb, fun w hw => by simpa using hA w hw⟩
    | succ k =>
      obtain ⟨V', js', h1, h2, h3⟩ := hk k o' (by simpa using ho)
      refine ⟨V', js', by simpa using h1, ?_, fun w hw => ?_⟩
      · simpa [Nat.add_assoc, Nat.add_comm 1 k] using h2
      · have := h3 w hw
        simpa [Nat.add_assoc, Nat.add_comm 1 k] using this

theorem Mono.weak {F G : List Pv → Prop} : ∀ {os : List Oper} {Vs : List Pv}, Mono P ops n a0 w0 F Vs os → (∀ Ws, Ws.length = Vs.length + os.length → F Ws → G Ws) → Mono P ops n a0 w0 G Vs os
  | [], Vs, h, hg => hg Vs (by simp) h
  | o :: os, Vs, ⟨V, js, hb, hA, hM⟩, hg => ⟨V, js, hb, hA, Mono.weak hM fun Ws hW => hg Ws (by simp at hW ⊢; omega)⟩
def valOf (dst : Option Tmp) (a : Act) : Value := match dst with | some d => a.eval (.tmp d) | none => undef
structure MInv (ops : Array Oper) (n : Nat) (a0 : Act) (w0 : World) (Vs : List Pv) (D : Array Bool) (a : Act) (w : World) : Prop where
  head : HeadInv .any ops n D
  grown : w0.grownBy w none
  tsize : a.tmps.size = a0.tmps.size
  defers : a.defers = a0.defers
  rest : ∀ t, (∀ j, j < n → D.getD j false = true → dstAt ops j ≠ some t) → a.tmps[t]? = a0.tmps[t]?
  known : ∀ j V, D.getD j false = true → Vs[j]? = some V → V.p (valOf (dstAt ops j) a) w
def cnt (D : Array Bool) : Nat → Nat
  | 0 => 0
  | k + 1 => cnt D k + if D.getD k false then 0 else 1
theorem cnt_set {D : Array Bool} {i : Nat} : ∀ k, (k ≤ i → cnt (D.setIfInBounds i true) k = cnt D k) ∧ (i < k → D.getD i true = false → cnt (D.setIfInBounds i true) k + 1 = cnt D k)
  | 0 => ⟨fun _ => rfl, fun h => by omega⟩
  | k + 1 => by
    obtain ⟨h1, h2⟩ := cnt_set (D := D) (i := i) k
    refine ⟨fun h => ?_, fun h hf => ?_⟩
    · simp only [cnt]
      rw [h1 (by omega), getD_set_ne false (by omega)]
    · simp only [cnt]
      by_cases e : i = k
      · subst e
        have hlt : i < D.size := by
          rcases Nat.lt_or_ge i D.size with h' | h'
          · exact h'
          · simp [Array.getElem?_eq_none h'] at hf
        rw [h1 (Nat.le_refl _), getD_both hf]
        simp [hlt]
      · have := h2 (by omega) hf
        rw [getD_set_ne false e]
        omega
theorem cnt_zero {D : Array Bool} : ∀ {k}, cnt D k = 0 → ∀ i, i < k → D.getD i false = true
  | 0, _, i, h => by omega
  | k + 1, h, i, hi => by
    simp only [cnt] at h
    by_cases e : i = k
    · subst e
      by_cases hd : D.getD i false = true
      · exact hd
      · simp [hd] at h
    · exact cnt_zero (k := k) (by omega) i (by omega)
theorem cnt_false (m : Nat) : ∀ k, cnt (Array.replicate m false) k = k
  | 0 => rfl
  | k + 1 => by simp only [cnt, cnt_false m k, getD_replicate_false]; rfl
theorem av_of {D : Array Bool} {i : Nat} (hcl : ∀ j oj, ops[j]? = some oj → D.getD j false = true → ∀ e ∈ oj.after, Region.binds .any e = true → D.getD e.on false = true) (hsz : D.size = ops.size) (hi : D.getD i false = false) : ∀ f k, D.getD k false = true → av ops i f k = true
  | 0, k, hk => by
    simp only [av, bne_iff_ne]
    rintro rfl
    rw [hi] at hk
    cases hk
  | f + 1, k, hk => by
    have hlt : k < ops.size := by
      rcases Nat.lt_or_ge k D.size with h' | h'
      · omega
      · simp [Array.getElem?_eq_none h'] at hk
    have ho : ops[k]? = some ops[k] := Array.getElem?_eq_getElem hlt
    simp only [av, ho, Option.map_some, Option.getD_some, Bool.and_eq_true, bne_iff_ne]
    refine ⟨?_, ?_⟩
    · rintro rfl
      rw [hi] at hk
      cases hk
    · rw [Array.all_eq_true_iff_forall_mem]
      intro e he
      by_cases hb : Region.binds .any e = true
      · simp [hb, av_of hcl hsz hi f e.on (hcl k _ ho hk e he hb)]
      · simp [hb]
theorem list_all_range {n : Nat} {p : Nat → Bool} (h : (List.range n).all p = true) {i : Nat} (hi : i < n) : p i = true := List.all_eq_true.1 h i (List.mem_range.2 hi)
theorem match_valOf (dst : Option Tmp) (a : Act) : (match dst with | some d => a.eval (.tmp d) | none => undef) = valOf dst a := by cases dst <;> rfl
theorem told_letsOut {V : Pv} {dst : Option Tmp} {ds : List Deferred} {w : World} : ¬ LetsOut (Told V dst ds w) := by
  rintro ⟨a, w', e, _⟩
  cases e
theorem told_op {V : Pv} {o : Oper} {a b : Act} {w : World} (hs : ∀ cs b, o.op ≠ .select cs b) (hd : ∀ d, o.dst = some d → d < a.tmps.size) (hsz : b.tmps.size = a.tmps.size) (hlook : ∀ t ∈ o.looksAt ops, b.tmps[t]? = a.tmps[t]?) {i : Nat} (hi : ops[i]? = some o)
    (hdf : b.defers = a0.defers) (h : wpList P ops (Told V o.dst a0.defers w) [o] b w) : wpOp P ops Q i (fun a' w' => ∃ v, a' = a.put o.dst v ∧ V.p (match o.dst with | some _ => v | none => undef) w' ∧ w.grownBy w' none) a w := by
  have hex : execOp b.eval o = execOp a.eval o := execOp_congr o hs fun x hx => by
    cases x with
    | tmp t => exact eval_of _ _ _ (hlook t (List.mem_append_left _ (List.mem_filterMap.2 ⟨.tmp t, by simpa using hx, rfl⟩)))
    | _ => rfl
  have hwn : Region.wanted o (yielded ops b.tmps) = Region.wanted o (yielded ops a.tmps) := by
    unfold Region.wanted
    cases hg : o.guard with
    | none => rfl
    | some gw =>
      obtain ⟨g, want⟩ := gw
      have hy : yielded ops b.tmps g = yielded ops a.tmps g := by
        unfold yielded
        cases ht : (ops[g]?).bind (·.dst) with
        | none => rfl
        | some t => simp only [Option.bind_some, hlook t (by simp [Oper.looksAt, hg, ht])]
      simp only [hy]
  have fin : ∀ v w', Told V o.dst a0.defers w .normal (b.put o.dst v) w' → ∃ v', a.put o.dst v = a.put o.dst v' ∧ V.p (match o.dst with | some _ => v' | none => undef) w' ∧ w.grownBy w' none := by
    rintro v w' ⟨_, _, h1, h2⟩
    refine ⟨v, rfl, ?_, h2⟩
    cases hdd : o.dst with
    | none => rw [hdd] at h1; exact h1
    | some d =>
      rw [hdd] at h1
      have hlt := hd d hdd
      have : (b.put (some d) v).eval (.tmp d) = v := by simp [Act.put, Act.eval, Array.getD_eq_getD_getElem?, hsz, hlt]
      simp only [this] at h1
      exact h1
  unfold wpOp
  simp only [hi]
  simp only [wpList, hwn] at h
  split
  · rename_i hw
    rw [if_pos hw] at h
    rcases h with h | h
    · left
      unfold Oper.wp at h ⊢
      rw [hex] at h
      generalize (execOp a.eval o).run P w = r at *
      cases r with
      | ok x w' =>
        cases x with
        | value v => exact fin v w' h
        | skip => exact fin undef w' h
        | enter f args =>
          refine Calls.mono h fun e w'' he => ?_
          cases e with
          | returned u => exact fin u w'' he
          | panicked c => exact absurd he.1 (by simp)
          | outgrown => exact absurd he told_letsOut
        | row row args => exact Rows.mono h fun u w'' he => fin u w'' he
        | defer d =>
          obtain ⟨_, h1, _⟩ := h
          have h1 : (Act.put { b with defers := d :: b.defers } o.dst undef).defers = a0.defers := h1
          rw [put_defers, ← hdf] at h1
          exact absurd (congrArg List.length h1) (by simp)
        | _ => exact h.elim
      | halt x w' =>
        cases x with
        | panic v => exact absurd h.1 (by simp)
        | _ => exact h.elim
    · exact absurd h.2 told_letsOut
  · rename_i hw
    rw [if_neg hw] at h
    exact fin undef w h
theorem minv_step {Vs : List Pv} {D : Array Bool} {a a' : Act} {w w' : World} {i : Nat} {o : Oper} {V : Pv} {v : Value} (inv : MInv ops n a0 w0 Vs D a w) (hd : distB ops n a0.tmps.size = true) (hi : i ∈ Region.ready .any ops D) (hin : i < n) (ho : ops[i]? = some o) (hV : Vs[i]? = some V) (hnl : Vs.length ≤ n)
    (ha : a' = a.put o.dst v) (hv : V.p (match o.dst with | some _ => v | none => undef) w') (hg : w.grownBy w' none) : MInv ops n a0 w0 Vs (D.setIfInBounds i true) a' w' := by
  subst ha
  have hdi : dstAt ops i = o.dst := by simp [dstAt, ho]
  have hun : D.getD i true = false := (mem_ready.1 hi).1
  have hlt : i < D.size := by
    rcases Nat.lt_or_ge i D.size with h' | h'
    · exact h'
    · simp [Array.getElem?_eq_none h'] at hun
  refine ⟨inv.head.set hi hin, inv.grown.trans hg, (put_size _ _ _).trans inv.tsize, (put_defers _ _ _).trans inv.defers, fun t ht => ?_, fun j W hj hW => ?_⟩
  · have h1 : o.dst ≠ some t := fun e => ht i hin (by simp [hlt]) (hdi.trans e)
    refine Eq.trans ?_ (inv.rest t fun j hj hD => ht j hj (getD_set_true hD))
    cases hdd : o.dst with
    | none => rfl
    | some d => exact put_at _ _ _ _ (fun e => h1 (by rw [hdd, e]))
  · by_cases e : i = j
    · subst e
      obtain rfl : V = W := Option.some.inj (hV.symm.trans hW)
      rw [hdi]
      cases hdd : o.dst with
      | none => rw [hdd] at hv; exact hv
      | some d =>
        rw [hdd] at hv
        have hds := list_all_range hd hin
        rw [hdi, hdd] at hds
        simp only [Bool.and_eq_true, decide_eq_true_eq] at hds
        have : (a.put (some d) v).eval (.tmp d) = v := by simp [Act.put, Act.eval, Array.getD_eq_getD_getElem?, inv.tsize, hds.1]
        show V.p ((a.put (some d) v).eval (.tmp d)) w'
        rw [this]
        exact hv
    · have hjn : j < n := by have := (List.getElem?_eq_some_iff.1 hW).1; omega
      rw [getD_set_ne false e] at hj
      have h1 := W.st (inv.known j W hj hW) hg
      cases hdj : dstAt ops j with
      | none => rw [hdj] at h1; exact h1
      | some dj =>
        rw [hdj] at h1
        have h1 : W.p (a.eval (.tmp dj)) w' := h1
        show W.p ((a.put o.dst v).eval (.tmp dj)) w'
        cases hdd : o.dst with
        | none => exact h1
        | some d =>
          have hds := list_all_range hd hin
          rw [hdi, hdd] at hds
          simp only [Bool.and_eq_true, decide_eq_true_eq] at hds
          have h2 := list_all_range hds.2 hjn
          simp only [Bool.or_eq_true, beq_iff_eq, bne_iff_ne, ne_eq] at h2
          have h3 : d ≠ dj := fun e' => (h2.resolve_left (fun e2 => e e2.symm)) (by rw [hdj, e'])
          rw [eval_of _ a dj (put_at a d dj v h3)]
          exact h1
/-- The law. -/
theorem wpAny_mono {l : List Oper} (n : Nat) (hB : monoB l.toArray n a0.tmps.size = true)
    (h : Mono P l.toArray n a0 w0 (fun Vs => ∀ w, w0.grownBy w none → Fin' (fun a w => wpList P l.toArray Q (l.drop n) a w) w Vs (l.take n) a0) [] (l.take n)) : wpAny P .any l.toArray Q l.toArray.size (Array.replicate l.toArray.size false) a0 w0 := by
  simp only [monoB, Bool.and_eq_true, decide_eq_true_eq] at hB
  obtain ⟨⟨⟨⟨hsel, hn⟩, htail⟩, htopo⟩, hdist⟩ := hB
  simp only [tailB, Bool.and_eq_true] at htail
  obtain ⟨hblk, hseq⟩ := htail
  obtain ⟨Vs, hVl, hF, hO⟩ := Mono.out h
  rw [List.nil_append] at hF
  simp only [List.nil_append, List.length_nil, Nat.zero_add] at hO
  have hnl : n ≤ l.length := by simpa using hn
  have htl : (l.take n).length = n := by simp; omega
  have hVn : Vs.length = n := hVl.trans htl
  have hdl : (l.drop n).length = l.toArray.size - n := by simp
  have hnext : ∀ i o, i < n → l.toArray[i]? = some o → (l.take n)[i]? = some o := fun i o hi ho => by
    rw [List.getElem?_take, if_pos hi]
    simpa using ho
  have key : ∀ m D a w, MInv l.toArray n a0 w0 Vs D a w → cnt D n = m → wpAny P .any l.toArray Q (m + (l.toArray.size - n)) D a w := by
    intro m
    induction m with
    | zero =>
      intro D a w inv hc
      have hall := cnt_zero hc
      have hD : D = Array.replicate n true ++ Array.replicate (l.toArray.size - n) false := by
        have hsz := inv.head.size
        refine Array.ext (by simp [hsz]; omega) fun i h1 h2 => ?_
        rw [Array.getElem_append]
        by_cases hi : i < n
        · have := hall i hi
          simp [h1] at this
          simp [hi, this]
        · have := inv.head.tail i (by omega) (by omega)
          simp [h1] at this
          simp [hi, this]
      have hk : ∀ (k : Nat) (V : Pv) (o : Oper), Vs[k]? = some V → (l.take n)[k]? = some o → V.p (match o.dst with | some d => a.eval (.tmp d) | none => undef) w := by
        intro k V o hv ho
        have hkn : k < n := by have := (List.getElem?_eq_some_iff.1 hv).1; omega
        have h1 := inv.known k V (hall k hkn) hv
        have h2 : dstAt l.toArray k = o.dst := by
          have : l[k]? = some o := by rw [List.getElem?_take, if_pos hkn] at ho; exact ho
          simp [dstAt, this]
        rw [h2] at h1
        rw [match_valOf]
        exact h1
      have hfin := Fin'.all hVl hk (hF w inv.grown)
      have hon : onto a ((l.take n).map (·.dst)) a0 = a := by
        refine act_ext (fun t => onto_at a t _ _ inv.tsize.symm ?_) ((onto_defers _ _ _).trans inv.defers.symm)
        by_cases ht : some t ∈ (l.take n).map (·.dst)
        · exact .inl ht
        · refine .inr (inv.rest t fun j hj _ e => ht ?_).symm
          have hjl : j < l.length := by omega
          have : l[j].dst = some t := by simpa [dstAt, hjl] using e
          exact List.mem_map.2 ⟨l[j], List.mem_iff_getElem?.2 ⟨j, by rw [List.getElem?_take, if_pos hj, List.getElem?_eq_getElem hjl]⟩, this⟩
      rw [hon] at hfin
      have := wpAny_of_seq (md := .any) (Q' := Q) (l.drop n) n D a w (fun j => by simp [List.getElem?_drop]) (by rw [hdl, hD]; exact hseq) hfin
      rw [hdl] at this
      rwa [Nat.zero_add]
    | succ m ih =>
      intro D a w inv hc
      have hready : ∀ i ∈ Region.ready .any l.toArray D, i < n := by
        intro i hi
        rcases Nat.lt_or_ge i n with h' | h'
        · exact h'
        · obtain ⟨hu, oi, hoi, hall⟩ := mem_ready.1 hi
          have hlt : i < l.toArray.size := (Array.getElem?_eq_some_iff.1 hoi).1
          exfalso
          obtain ⟨k, hk, hkd⟩ : ∃ k, k < n ∧ D.getD k false = false := by
            refine Classical.byContradiction fun hno => ?_
            have : ∀ k, k ≤ n → cnt D k = 0 := by
              intro k
              induction k with
              | zero => intro _; rfl
              | succ k ihk =>
                intro hk
                have h1 : D.getD k false = true := by
                  refine Classical.byContradiction fun hx => hno ⟨k, by omega, by simpa using hx⟩
                simp only [cnt, h1, ihk (by omega)]
                rfl
            rw [this n (Nat.le_refl _)] at hc
            omega
          have hb := list_all_range hblk hlt
          simp only [Bool.or_eq_true, decide_eq_true_eq] at hb
          have hb := list_all_range (hb.resolve_left (by omega)) hk
          simp only [Bool.not_eq_true'] at hb
          have hik : i ≠ k := by omega
          have : av l.toArray k n i = true := by
            have hav := fun f j hj => av_of (ops := l.toArray) inv.head.closed inv.head.size hkd f j hj
            cases hn0 : n with
            | zero => simp [av, hik]
            | succ f =>
              simp only [av, hoi, Option.map_some, Option.getD_some, Bool.and_eq_true, bne_iff_ne]
              refine ⟨hik, ?_⟩
              rw [Array.all_eq_true_iff_forall_mem]
              intro e he
              by_cases hbd : Region.binds .any e = true
              · simp [hbd, hav f e.on (hall e he hbd)]
              · simp [hbd]
          rw [hb] at this
          cases this
      have hne : Region.ready .any l.toArray D ≠ [] := by
        have hex : ∃ k, k < n ∧ D.getD k false = false ∧ ∀ j, j < k → D.getD j false = true := by
          have : ∀ k, k ≤ n → (∃ q, q < k ∧ D.getD q false = false ∧ ∀ j, j < q → D.getD j false = true) ∨ (cnt D k = 0) := by
            intro k
            induction k with
            | zero => intro _; exact .inr rfl
            | succ k ihk =>
              intro hk
              rcases ihk (by omega) with ⟨q, h1, h2⟩ | h0
              · exact .inl ⟨q, by omega, h2⟩
              · cases hq : D.getD k false with
                | true => right; simp only [cnt, hq, h0]; rfl
                | false => exact .inl ⟨k, by omega, hq, cnt_zero h0⟩
          rcases this n (Nat.le_refl _) with ⟨q, h1, h2⟩ | h0
          · exact ⟨q, h1, h2⟩
          · omega
        obtain ⟨k, hk, hkd, hbel⟩ := hex
        have hkl : k < l.toArray.size := by omega
        have ho : l.toArray[k]? = some l.toArray[k] := Array.getElem?_eq_getElem hkl
        have : k ∈ Region.ready .any l.toArray D := by
          refine mem_ready.2 ⟨getD_in (by rw [inv.head.size]; exact hkl) hkd, _, ho, fun e he hb => hbel _ ?_⟩
          have ht := list_all_range htopo hk
          simp only [ho, Option.map_some, Option.getD_some] at ht
          have := Array.all_eq_true_iff_forall_mem.1 ht e he
          simpa [hb] using this
        intro e
        rw [e] at this
        cases this
      rw [show m + 1 + (l.toArray.size - n) = (m + (l.toArray.size - n)) + 1 by omega]
      refine ⟨fun e => absurd e hne, fun i hi => ?_⟩
      have hin := hready i hi
      obtain ⟨hu, o, ho, hall⟩ := mem_ready.1 hi
      obtain ⟨V, js, hV, hchk, hask⟩ := hO i o (hnext i o hin ho)
      simp only [Bool.and_eq_true] at hchk
      obtain ⟨hpair, hlook⟩ := hchk
      have hdst : ∀ d, o.dst = some d → d < a.tmps.size := by
        intro d hd
        have := list_all_range hdist hin
        have h2 : dstAt l.toArray i = some d := by simp only [dstAt, ho]; exact hd
        rw [h2] at this
        simp only [Bool.and_eq_true, decide_eq_true_eq] at this
        rw [inv.tsize]
        exact this.1
      have hjs : ∀ x : Nat × Tmp, x ∈ js → dstAt l.toArray x.1 = some x.2 ∧ D.getD x.1 false = true ∧ x.1 < i := by
        intro x hx
        have := List.all_eq_true.1 hpair x hx
        simp only [Bool.and_eq_true, beq_iff_eq] at this
        obtain ⟨oj, hoj, e, he, hb, hon⟩ := Region.waitsFor_spec this.2
        obtain rfl : o = oj := Option.some.inj (ho.symm.trans hoj)
        have ht := list_all_range htopo hin
        simp only [ho, Option.map_some, Option.getD_some] at ht
        have ht := Array.all_eq_true_iff_forall_mem.1 ht e he
        simp only [hb, Bool.not_true, Bool.false_or, decide_eq_true_eq] at ht
        exact ⟨this.1, by rw [← hon]; exact hall e he hb, by rw [← hon]; exact ht⟩
      have hA := hask w inv.grown
      have hW := Ask.all (b := a) (fun x hx => by
        obtain ⟨h1, h2, h3⟩ := hjs x hx
        have hxl : x.1 < Vs.length := by omega
        have h4 : Vs[x.1]? = some Vs[x.1] := List.getElem?_eq_getElem hxl
        have h5 := inv.known x.1 _ h2 h4
        rw [h1] at h5
        have : (Vs.take i).getD x.1 Pv.any = Vs[x.1] := by
          rw [List.getD_eq_getElem?_getD, List.getElem?_take, if_pos h3, h4]
          rfl
        rw [this]
        exact h5) hA
      have hop := told_op (Q := Q) (ops := l.toArray) (a0 := a0) (a := a) (Region.noSelect_spec hsel i o · · ho) hdst ((onto_size _ _ _).trans inv.tsize.symm) (fun t ht => by
        refine onto_at a t _ _ inv.tsize.symm ?_
        have h1 : (o.looksAt l.toArray).all (fun t => js.any (·.2 == t) || keptB l.toArray n i t) = true := by
          simpa only [lookB, ho, Option.map_some, Option.getD_some] using hlook
        have h2 := List.all_eq_true.1 h1 t ht
        simp only [Bool.or_eq_true] at h2
        rcases h2 with h2 | h2
        · left
          obtain ⟨x, hx, hxt⟩ := List.any_eq_true.1 h2
          exact List.mem_map.2 ⟨x, hx, by rw [beq_iff_eq.1 hxt]⟩
        · right
          refine (inv.rest t fun j hj hD e => ?_).symm
          have h3 := list_all_range h2 hj
          simp only [Bool.or_eq_true, bne_iff_ne, ne_eq, beq_iff_eq] at h3
          rcases h3 with (h3 | h3) | h3
          · exact h3 e
          · obtain ⟨oj, hoj, e', he', hb', hon⟩ := Region.waitsFor_spec h3
            have := inv.head.closed j oj hoj hD e' he' hb'
            rw [hon, getD_both hu] at this
            cases this
          · subst h3
            rw [getD_both hu] at hD
            cases hD) ho (onto_defers _ _ _) hW
      refine wpOp_mono (fun a' w' hk => ?_) hop
      obtain ⟨v, ha, hv, hg⟩ := hk
      exact ih _ a' w' (minv_step inv hdist hi hin ho hV (by omega) ha hv hg) (by have := (cnt_set (D := D) (i := i) n).2 hin hu; omega)
  have h0 := key n (Array.replicate l.toArray.size false) a0 w0 ⟨⟨by simp, (fun j oj _ hD => by rw [getD_replicate_false] at hD; cases hD), fun t _ ht => by simp only [List.size_toArray] at ht ⊢; simp [ht]⟩, World.grownBy.refl w0 none, rfl, rfl, fun _ _ => rfl, (fun j V hD => by rw [getD_replicate_false] at hD; cases hD)⟩ (cnt_false _ n)
  rwa [show n + (l.toArray.size - n) = l.toArray.size by omega] at h0
/-- One operation that is carried out .. -/
theorem ask_do {V : Pv} {ds : List Deferred} {o : Oper} {a : Act} {w : World} (hw : Region.wanted o (yielded ops a.tmps) = true)
    (h : ∀ K : Act → World → Prop, (∀ a' w', a'.defers = ds → V.p (match o.dst with | some d => a'.eval (.tmp d) | none => undef) w' → w.grownBy w' none → K a' w') → o.wp P a w K (Told V o.dst ds w)) : wpList P ops (Told V o.dst ds w) [o] a w := by
  unfold wpList
  rw [if_pos hw]
  exact .inl (h _ fun a' w' h1 h2 h3 => ⟨rfl, h1, h2, h3⟩)
/-- .. or is not. -/
theorem ask_skip {V : Pv} {ds : List Deferred} {o : Oper} {a : Act} {w : World} (hw : Region.wanted o (yielded ops a.tmps) = false) (h1 : (a.put o.dst undef).defers = ds) (h2 : V.p (match o.dst with | some d => (a.put o.dst undef).eval (.tmp d) | none => undef) w) : wpList P ops (Told V o.dst ds w) [o] a w := by
  unfold wpList
  rw [if_neg (by rw [hw]; simp)]
  exact ⟨rfl, h1, h2, World.grownBy.refl w none⟩
/-- The same, over the whole row. -/
def MonoN (P : Program) (ops : Array Oper) (n : Nat) (a0 : Act) (w0 : World) (F : List Pv → List Oper → Prop) : Nat → List Pv → List Oper → Prop
  | 0, Vs, os => F Vs os
  | _ + 1, _, [] => False
  | k + 1, Vs, o :: os => ∃ (V : Pv) (js : List (Nat × Tmp)), (pairB ops Vs.length js && lookB ops n Vs.length js) = true ∧ (∀ w, w0.grownBy w none → Ask P ops Vs (Told V o.dst a0.defers w) o w js a0) ∧ MonoN P ops n a0 w0 F k (Vs ++ [V]) os
theorem MonoN.step {F : List Pv → List Oper → Prop} {k : Nat} {Vs : List Pv} {o : Oper} {os : List Oper} (V : Pv) (js : List (Nat × Tmp)) (hc : (pairB ops Vs.length js && lookB ops n Vs.length js) = true) (hA : ∀ w, w0.grownBy w none → Ask P ops Vs (Told V o.dst a0.defers w) o w js a0) (h : MonoN P ops n a0 w0 F k (Vs ++ [V]) os) : MonoN P ops n a0 w0 F (k + 1) Vs (o :: os) := ⟨V, js, hc, hA, h⟩
/-- What is behind them. -/
def FinN (P : Program) (ops : Array Oper) (Q : Exit → Act → World → Prop) (w : World) : List Pv → List Oper → Act → Prop
  | V :: Vs, o :: os, a => ∀ x, V.p x w → FinN P ops Q w Vs os (a.put o.dst x)
  | _, os, a => wpList P ops Q os a w
theorem FinN.cut {w : World} : ∀ {Vs : List Pv} {os : List Oper} {a : Act}, Vs.length ≤ os.length → FinN P ops Q w Vs os a → Fin' (fun a w => wpList P ops Q (os.drop Vs.length) a w) w Vs (os.take Vs.length) a
  | [], os, a, _, h => by
    have h : wpList P ops Q os a w := by cases os <;> exact h
    exact h
  | V :: Vs, [], a, hl, _ => by simp at hl
  | V :: Vs, o :: os, a, hl, h => fun x hx => FinN.cut (Vs := Vs) (os := os) (by simpa using hl) (h x hx)
theorem MonoN.cut {F : List Pv → List Oper → Prop} : ∀ {k : Nat} {Vs : List Pv} {os : List Oper}, MonoN P ops n a0 w0 F k Vs os → Mono P ops n a0 w0 (fun Ws => F Ws (os.drop k)) Vs (os.take k) ∧ k ≤ os.length
  | 0, Vs, os, h => ⟨by cases os <;> exact h, Nat.zero_le _⟩
  | k + 1, Vs, [], h => h.elim
  | k + 1, Vs, o :: os, ⟨V, js, hc, hA, h⟩ => ⟨⟨V, js, hc, hA, (MonoN.cut h).1⟩, by simpa using (MonoN.cut h).2⟩
theorem wpAny_monoN {l : List Oper} (n : Nat) (hB : monoB l.toArray n a0.tmps.size = true)
    (h : MonoN P l.toArray n a0 w0 (fun Vs _ => ∀ w, w0.grownBy w none → FinN P l.toArray Q w Vs l a0) n [] l) : wpAny P .any l.toArray Q l.toArray.size (Array.replicate l.toArray.size false) a0 w0 := by
  obtain ⟨hM, hn⟩ := MonoN.cut h
  obtain ⟨Vs, hVl, hF, hO⟩ := Mono.out hM
  have hVn : Vs.length = n := by rw [hVl]; simp; omega
  refine wpAny_mono n hB (Mono.weak hM fun Ws hW hF w hw => ?_)
  have := FinN.cut (by rw [hW]; simp; omega) (hF w hw)
  rw [show Ws.length = n by rw [hW]; simp; omega] at this
  exact this
/-- The same, with what is known in the row in which it came, the last first. -/
def MonoR (P : Program) (ops : Array Oper) (n : Nat) (a0 : Act) (w0 : World) (F : List Pv → Prop) : Nat → List Pv → List Oper → Prop
  | 0, Rs, _ => F Rs.reverse
  | _ + 1, _, [] => False
  | k + 1, Rs, o :: os => ∃ (V : Pv) (js : List (Nat × Tmp)), (pairB ops Rs.length js && lookB ops n Rs.length js) = true ∧ (∀ w, w0.grownBy w none → Ask P ops Rs.reverse (Told V o.dst a0.defers w) o w js a0) ∧ MonoR P ops n a0 w0 F k (V :: Rs) os
theorem MonoR.step {F : List Pv → Prop} {k : Nat} {Rs : List Pv} {o : Oper} {os : List Oper} (V : Pv) (js : List (Nat × Tmp)) (hc : (pairB ops Rs.length js && lookB ops n Rs.length js) = true) (hA : ∀ w, w0.grownBy w none → Ask P ops Rs.reverse (Told V o.dst a0.defers w) o w js a0) (h : MonoR P ops n a0 w0 F k (V :: Rs) os) : MonoR P ops n a0 w0 F (k + 1) Rs (o :: os) := ⟨V, js, hc, hA, h⟩
theorem MonoR.up {F : List Pv → Prop} : ∀ {k : Nat} {Rs : List Pv} {os : List Oper}, MonoR P ops n a0 w0 F k Rs os → MonoN P ops n a0 w0 (fun Vs _ => F Vs) k Rs.reverse os
  | 0, _, _, h => h
  | _ + 1, _, [], h => h.elim
  | k + 1, Rs, o :: os, ⟨V, js, hc, hA, h⟩ => ⟨V, js, by rw [List.length_reverse]; exact hc, hA, by have := MonoR.up h; rwa [List.reverse_cons] at this⟩
theorem wpAny_monoR {l : List Oper} (n : Nat) (hB : monoB l.toArray n a0.tmps.size = true)
    (h : MonoR P l.toArray n a0 w0 (fun Vs => ∀ w, w0.grownBy w none → FinN P l.toArray Q w Vs l a0) n [] l) : wpAny P .any l.toArray Q l.toArray.size (Array.replicate l.toArray.size false) a0 w0 :=
  wpAny_monoN n hB (MonoR.up h)
theorem wp_region_mono {l : List Oper} {id : Nat} (n : Nat) (hm : P.follows .mixedOrders = true) (hB : monoB l.toArray n a0.tmps.size = true)
    (h : MonoR P l.toArray n a0 w0.drew (fun Vs => ∀ w, w0.drew.grownBy w none → FinN P l.toArray Q w Vs l a0) n [] l) : (Code.region id l.toArray true).wp P Q a0 w0 :=
  wp_region_any hm (wpAny_monoR n hB h)
end
def TT : Nat → Prop := fun _ => True
/-- Things laid one behind the other into a new block. -/
def RepL {α : Type} (E : Enc α) (w : World) : List (List Value) → List α → Prop
  | [], [] => True
  | c :: cs, x :: xs => E.rep TT w c x ∧ RepL E w cs xs
  | _, _ => False
theorem RepL.out {α : Type} {E : Enc α} {w : World} : ∀ {css : List (List Value)} {xs : List α}, RepL E w css xs → css.length = xs.length ∧ ∀ i (h : i < xs.length) (h' : i < css.length), E.rep TT w css[i] xs[i]
  | [], [], _ => ⟨rfl, fun i h => by simp at h⟩
  | c :: cs, x :: xs, ⟨h1, h2⟩ => by
    obtain ⟨k1, k2⟩ := RepL.out h2
    refine ⟨by simp [k1], fun i h h' => ?_⟩
    cases i with
    | zero => exact h1
    | succ i => exact k2 i (by simpa using h) (by simpa using h')
theorem RepL.kept {α : Type} {E : Enc α} {w w' : World} (hg : w.grownBy w' none) : ∀ {css : List (List Value)} {xs : List α}, RepL E w css xs → RepL E w' css xs
  | [], [], _ => trivial
  | _ :: _, _ :: _, ⟨h1, h2⟩ => ⟨E.keep h1 hg (by simp), RepL.kept hg h2⟩
theorem Sl.build {α : Type} {E : Enc α} {w : World} {t : TypeId} {cs : Array Value} {xs : List α} {n : Nat} (css : List (List Value)) (hn : xs.length = n) (hr : RepL E w css xs) (hc : cs.toList = css.flatten) (hb : n ≤ 9223372036854775807) : Sl E TT (w.alloc (.cells cs t)) (.slice (some ⟨w.heap.size, 0, none⟩) n n) xs := by
  subst hn
  obtain ⟨h1, h2⟩ := (hr.kept (World.grownBy_alloc w (.cells cs t) none)).out
  exact Sl.block (Bk.new w t cs) trivial css h1 h2 hc (Nat.le_refl _) hb
end Go.Proofs.YtnjbigbiclfcoaaDoor
