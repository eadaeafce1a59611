/- append onto a slice of the call's own, told by what it reads as. -/
import Derived.Test.YtnjbigbiclfcoaaDoorEnc
import Derived.Maps.AppendAt
import Derived.RegionTactic
namespace Go.Proofs.YtnjbigbiclfcoaaDoor
open Go.RowKit

/-- Slice type t has elements of type e, of so many cells and bytes. -/
def ElemOk (P : Program) (t e : TypeId) (size bytes : Nat) : Prop :=
  0 < bytes ∧ P.underlying t = some (.slice e) ∧ ∃ i z, P.info? e = some i ∧ i.zero = some z ∧ i.size = size ∧ i.bytes = bytes ∧ z.cells.size = size
theorem ElemOk.mk' {P : Program} {t e : TypeId} {size bytes : Nat} {z : Value} (hb : 0 < bytes) (ht : P.underlying t = some (.slice e)) (h : (P.info? e).map (fun i => (i.zero, i.size, i.bytes)) = some (some z, size, bytes)) (hz : z.cells.size = size) : ElemOk P t e size bytes := by
  obtain ⟨i, hi, h0, h1, h2⟩ := info_parts h
  exact ⟨hb, ht, i, z, hi, h0, h1, h2, hz⟩

section
variable {α : Type} {P : Program} {E : Enc α} {base : Nat} {e : TypeId} {X Z : Nat → Prop} {w : World} {v : Value} {xs : List α}

theorem run_app {t ty : TypeId} {size bytes : Nat} (hE : ElemOk P t e size bytes) (hsz : 0 < size) {n : Nat} {cs : List Value} (hown : w.ownsRow base e size v n cs)
    (A : Option Addr) (m c : Nat) (news : List Value) (hl : news.length = m * size) (h0 : A = none → m = 0) (hc : ∀ ad, A = some ad → ∀ j u, news[j]? = some u → w.cell? (ad.add j) = some u)
    (h1 : ∀ u ∈ news, u.oneCell' = true) (hbytes : (n + m) * bytes ≤ 140737488355328) (hbase : base ≤ w.heap.size) :
    ∃ v' w', (Builtin.append_ #[t, t] ty #[v, .slice A m c]).run P w = .ok v' w' ∧ w'.ownsRow base e size v' (n + m) (cs ++ news) ∧ w.grownBy w' v.ownBlock ∧ (v'.ownBlock = v.ownBlock ∨ v'.ownBlock = some w.heap.size) := by
  obtain ⟨hb, ht, i, z, hi, hz, hz1, hz2, hz3⟩ := hE
  have h63 : n + m ≤ maxLen := by
    have : (n + m) * 1 ≤ (n + m) * bytes := Nat.mul_le_mul_left _ hb
    unfold maxLen
    omega
  cases A with
  | none =>
    have hm := h0 rfl
    subst hm
    have hn : news = [] := List.eq_nil_of_length_eq_zero (by simpa using hl)
    subst hn
    refine ⟨v, w, ?_, by simpa using hown, World.grownBy.refl w _, .inl rfl⟩
    rcases hown.2 with ⟨rfl, rfl⟩ | ⟨g, cap, cur, rfl, _, _, hnc, _⟩
    · simp [Builtin.append_, run_underlying ht, sizeOf, typeInfo, hi, Builtin.lenOf, Builtin.firstCells]
    · simp [Builtin.append_, run_underlying ht, sizeOf, typeInfo, hi, Builtin.lenOf, Builtin.firstCells, hnc, storeCells]
  | some ad =>
    obtain ⟨v', w', hr, h2, h3, _, h5⟩ := run_append_own_at (P := P) w base t ty e i z size bytes ht hi hz hz1 hz2 hz3 hsz v n cs hown ad m c news hl (hc ad rfl) h1 h63 hbytes hbase
    exact ⟨v', w', hr, h2, h3, h5⟩

theorem wp_app {o : Oper} {a : Act} {K : Act → World → Prop} {Q : Exit → Act → World → Prop} (s x : Operand) (t : TypeId)
    (ho : o.op = .call { callee := .builtin .append, args := #[s, x], argTypes := #[t, t] }) {size bytes : Nat} (hE : ElemOk P t e size bytes) (hsz : 0 < size) {n : Nat} {cs : List Value} (hs : a.eval s = v) (hown : w.ownsRow base e size v n cs)
    (A : Option Addr) (m c : Nat) (news : List Value) (hx : a.eval x = .slice A m c) (hl : news.length = m * size) (h0 : A = none → m = 0) (hc : ∀ ad, A = some ad → ∀ j u, news[j]? = some u → w.cell? (ad.add j) = some u)
    (h1 : ∀ u ∈ news, u.oneCell' = true) (hbytes : (n + m) * bytes ≤ 140737488355328) (hbase : base ≤ w.heap.size)
    (h : ∀ v' w', w'.ownsRow base e size v' (n + m) (cs ++ news) → w.grownBy w' v.ownBlock → (v'.ownBlock = v.ownBlock ∨ v'.ownBlock = some w.heap.size) → K (a.put o.dst v') w') : o.wp P a w K Q := by
  obtain ⟨v', w', hr, h2, h3, h4⟩ := run_app (P := P) (ty := o.type) hE hsz hown A m c news hl h0 hc h1 hbytes hbase
  unfold Oper.wp execOp
  simp only [ho, resolve, invoke, builtin, Sem.run_bind, Sem.run_pure, Result.andThen_ok, List.map_toArray, List.map_cons, List.map_nil, hs, hx, hr]
  exact h v' w' h2 h3 h4

/-- Things more. -/
theorem Acc.app {w' : World} {v' : Value} (h : Acc E base e X w v xs) {ys : List α} {cs2 : List (List Value)} (hlen : cs2.length = ys.length) (hx : ∀ i (h : i < ys.length) (h' : i < cs2.length), E.rep (fun g => X g ∧ some g ≠ v.ownBlock) w cs2[i] ys[i])
    (hown : ∀ css, w.ownsRow base e E.size v xs.length css → w'.ownsRow base e E.size v' (xs.length + ys.length) (css ++ cs2.flatten)) (hg : w.grownBy w' v.ownBlock) (hat : v'.ownBlock = v.ownBlock ∨ ∃ n, w.heap.size ≤ n ∧ v'.ownBlock = some n)
    (hN : ∀ g, w.heap.size ≤ g → X g) : Acc E base e X w' v' (xs ++ ys) := by
  obtain ⟨hb, css, h1, h2, h3⟩ := h
  have lift : ∀ {cs' : List Value} {y : α}, E.rep (fun g => X g ∧ some g ≠ v.ownBlock) w cs' y → E.rep (fun g => X g ∧ some g ≠ v'.ownBlock) w' cs' y := fun hr => by
    have a1 := E.more (Y := fun g => g < w.heap.size ∧ X g ∧ some g ≠ v.ownBlock) hr fun g hl hg => ⟨hl, hg⟩
    have a2 := E.keep a1 hg fun g hg => hg.2.2
    refine E.more a2 fun g _ hg => ⟨hg.2.1, ?_⟩
    rcases hat with hat | ⟨n, hn, hat⟩ <;> rw [hat]
    · exact hg.2.2
    · intro he
      injection he with he
      have := hg.1
      omega
  refine ⟨fun g hv => ?_, css ++ cs2, by simp [h1, hlen], fun i hi hi' => ?_, ?_⟩
  · rcases hat with hat | ⟨n, hn, hat⟩ <;> rw [hat] at hv
    · exact hb g hv
    · injection hv with hv; subst hv; exact hN _ hn
  · refine lift ?_
    rcases Nat.lt_or_ge i css.length with hlt | hge
    · have e1 : (css ++ cs2)[i] = css[i] := List.getElem_append_left hlt
      have e2 : (xs ++ ys)[i] = xs[i]'(by omega) := List.getElem_append_left (by omega)
      rw [e1, e2]
      exact h2 i (by omega) hlt
    · have e1 : (css ++ cs2)[i] = cs2[i - css.length]'(by simp at hi'; omega) := List.getElem_append_right hge
      have e2 : (xs ++ ys)[i] = ys[i - xs.length]'(by simp at hi; omega) := List.getElem_append_right (by omega)
      rw [e1, e2]
      simp only [h1]
      exact hx _ _ _
  · have := hown _ h3
    simpa using this

/-- Where the new slice lies. -/
def Moved (w : World) (v v' : Value) : Prop := v'.ownBlock = v.ownBlock ∨ ∃ n, w.heap.size ≤ n ∧ v'.ownBlock = some n
theorem Moved.ne {w : World} {v v' : Value} (h : Moved w v v') {g : Nat} (hg : g < w.heap.size) (hne : v.ownBlock ≠ some g) : v'.ownBlock ≠ some g := by
  rcases h with h | ⟨n, hn, h⟩ <;> rw [h]
  · exact hne
  · intro he; injection he with he; omega

theorem own_same {size n : Nat} {cs cs' : List Value} (h : w.ownsRow base e size v n cs) (k : w.ownsRow base e size v n cs') : cs = cs' := by
  rcases h.2 with ⟨r1, r2⟩ | ⟨g, cap, cur, r1, _, r3, _, _, _, r7⟩
  · have l1 := h.1
    have l2 := k.1
    rw [r2, Nat.zero_mul] at l1 l2
    have a1 : cs = [] := List.eq_nil_of_length_eq_zero l1
    have a2 : cs' = [] := List.eq_nil_of_length_eq_zero l2
    rw [a1, a2]
  · rcases k.2 with ⟨q1, _⟩ | ⟨g', cap', cur', q1, _, q3, _, _, _, q7⟩
    · rw [r1] at q1; cases q1
    · rw [r1] at q1
      injection q1 with q1 _ _
      injection q1 with q1
      injection q1 with q1
      subst q1
      rw [r3] at q3
      injection q3 with q3
      injection q3 with q3
      subst q3
      rw [← q7, ← r7]
/-- append(out, y): the thing y lies in a block of its own, just laid. -/
theorem push_core {cs : List Value} {y : α} {t : TypeId} {bytes : Nat} (hE : ElemOk P t e E.size bytes) (hacc : Acc E base e X w v xs) (hrep : E.rep (fun g => X g ∧ some g ≠ v.ownBlock) w cs y)
    (hlen : (xs.length + 1) * bytes ≤ 140737488355328) (hb : base ≤ w.heap.size) (hN : ∀ g, w.heap.size ≤ g → X g)
    {o : Oper} {a : Act} {K : Act → World → Prop} {Q : Exit → Act → World → Prop} (s x : Operand)
    (ho : o.op = .call { callee := .builtin .append, args := #[s, x], argTypes := #[t, t] }) (hs : a.eval s = v) (hx : a.eval x = .slice (some ⟨w.heap.size, 0, none⟩) 1 1)
    (h : ∀ v' w', Acc E base e X w' v' (xs ++ [y]) → w.grownBy w' v.ownBlock → Moved w v v' → K (a.put o.dst v') w') : o.wp P a (w.alloc (.cells cs.toArray e)) K Q := by
  obtain ⟨_, css, h1, _, h3⟩ := id hacc
  have hcl := E.len hrep
  have hbk : Bk (w.alloc (.cells cs.toArray e)) w.heap.size e cs.toArray := Bk.new w _ _
  have hga : w.grownBy (w.alloc (.cells cs.toArray e)) v.ownBlock := World.grownBy_alloc w _ _
  refine wp_app s x t ho (size := E.size) hE E.pos hs (h3.alloc _) (some ⟨w.heap.size, 0, none⟩) 1 1 cs hx (by rw [hcl, Nat.one_mul]) (by simp) ?_ (E.ones hrep) hlen (by simp; omega) ?_
  · intro ad e' j u hu
    injection e' with e'
    subst e'
    have := hbk.cell j
    rw [List.getElem?_toArray, hu] at this
    rw [← this]
    unfold Addr.add
    split
    · rename_i h0
      have : j = 0 := by simpa using h0
      subst this
      rfl
    · simp
  · intro v' w' hown hg hat
    have hgg := hga.trans hg
    have hat' : Moved w v v' := hat.imp id fun e => ⟨_, by simp, e⟩
    refine h v' w' (hacc.app (cs2 := [cs]) (ys := [y]) rfl (fun i hi hi' => ?_) (fun css' hc' => ?_) hgg hat' hN) hgg hat'
    · have : i = 0 := by simp at hi; omega
      subst this
      exact hrep
    · have e1 : css' = css.flatten := own_same hc' h3
      rw [e1]
      simpa using hown
theorem wpList_push {cs : List Value} {y : α} {t : TypeId} {bytes : Nat} {ops : Array Oper} {rest : List Oper} {o : Oper} {a : Act} {Q : Exit → Act → World → Prop} (hgd : o.guard = none) (s x : Operand)
    (ho : o.op = .call { callee := .builtin .append, args := #[s, x], argTypes := #[t, t] }) (hE : ElemOk P t e E.size bytes) (hacc : Acc E base e X w v xs) (hs : a.eval s = v) (hx : a.eval x = .slice (some ⟨w.heap.size, 0, none⟩) 1 1) (hrep : E.rep (fun g => X g ∧ some g ≠ v.ownBlock) w cs y)
    (hlen : (xs.length + 1) * bytes ≤ 140737488355328) (hb : base ≤ w.heap.size) (hN : ∀ g, w.heap.size ≤ g → X g)
    (h : ∀ v' w', Acc E base e X w' v' (xs ++ [y]) → w.grownBy w' v.ownBlock → Moved w v v' → wpList P ops Q rest (a.put o.dst v') w') : wpList P ops Q (o :: rest) a (w.alloc (.cells cs.toArray e)) :=
  wpList_plain hgd fun _ hK => push_core hE hacc hrep hlen hb hN s x ho hs hx fun v' w' h1 h2 h3 => hK _ _ (h v' w' h1 h2 h3)
theorem step_push {cs : List Value} {y : α} {t : TypeId} {bytes : Nat} {ops : Array Oper} {o : Oper} {a : Act} {K : Act → World → Prop} {Q : Exit → Act → World → Prop} {F : Prop} (hgd : o.guard = none) (s x : Operand)
    (ho : o.op = .call { callee := .builtin .append, args := #[s, x], argTypes := #[t, t] }) (hE : ElemOk P t e E.size bytes) (hacc : Acc E base e X w v xs) (hs : a.eval s = v) (hx : a.eval x = .slice (some ⟨w.heap.size, 0, none⟩) 1 1) (hrep : E.rep (fun g => X g ∧ some g ≠ v.ownBlock) w cs y)
    (hlen : (xs.length + 1) * bytes ≤ 140737488355328) (hb : base ≤ w.heap.size) (hN : ∀ g, w.heap.size ≤ g → X g)
    (h : ∀ v' w', Acc E base e X w' v' (xs ++ [y]) → w.grownBy w' v.ownBlock → Moved w v v' → K (a.put o.dst v') w') : if Region.wanted o (yielded ops a.tmps) = true then Oper.wp P o a (w.alloc (.cells cs.toArray e)) K Q else F := by
  have hw : Region.wanted o (yielded ops a.tmps) = true := by simp [Region.wanted, hgd]
  rw [if_pos hw]
  exact push_core hE hacc hrep hlen hb hN s x ho hs hx h

/-- append(out, ys...): the things lie in a slice that reads so. -/
theorem apps_core {ys : List α} {A : Option Addr} {m c : Nat} {t : TypeId} {bytes : Nat} (hE : ElemOk P t e E.size bytes) (hacc : Acc E base e X w v xs) (hys : Sl E Z w (.slice A m c) ys) (hZ : ∀ cs y, E.rep Z w cs y → E.rep (fun g => X g ∧ some g ≠ v.ownBlock) w cs y)
    (hlen : (xs.length + ys.length) * bytes ≤ 140737488355328) (hb : base ≤ w.heap.size) (hN : ∀ g, w.heap.size ≤ g → X g)
    {o : Oper} {a : Act} {K : Act → World → Prop} {Q : Exit → Act → World → Prop} (s x : Operand)
    (ho : o.op = .call { callee := .builtin .append, args := #[s, x], argTypes := #[t, t] }) (hs : a.eval s = v) (hx : a.eval x = .slice A m c)
    (h : ∀ v' w', Acc E base e X w' v' (xs ++ ys) → w.grownBy w' v.ownBlock → Moved w v v' → K (a.put o.dst v') w') : o.wp P a w K Q := by
  obtain ⟨_, css, h1, _, h3⟩ := id hacc
  obtain ⟨A', c', e', hl1, hl2, hc⟩ := hys
  injection e' with e1 e2 e3
  subst e1 e2 e3
  have key : ∀ i, ∃ cs, ∀ (hi : i < ys.length), E.rep Z w cs ys[i] ∧ ∀ g o, A = some ⟨g, o, none⟩ → ∀ j u, cs[j]? = some u → w.cell? ⟨g, o + i * E.size + j, none⟩ = some u := by
    intro i
    by_cases hi : i < ys.length
    · obtain ⟨g, o, eA, _, _, hcc⟩ := hc (by intro h0; rw [h0] at hi; exact absurd hi (by simp))
      obtain ⟨cs, hr, hcell⟩ := hcc i hi
      refine ⟨cs, fun _ => ⟨hr, fun g' o' eA' => ?_⟩⟩
      rw [eA] at eA'
      injection eA' with eA'
      injection eA' with e1 e2
      subst e1 e2
      exact hcell
    · exact ⟨[], fun h => absurd h hi⟩
  obtain ⟨f, hf⟩ : ∃ f : Nat → List Value, ∀ i (hi : i < ys.length), E.rep Z w (f i) ys[i] ∧ ∀ g o, A = some ⟨g, o, none⟩ → ∀ j u, (f i)[j]? = some u → w.cell? ⟨g, o + i * E.size + j, none⟩ = some u :=
    ⟨fun i => Classical.choose (key i), fun i => Classical.choose_spec (key i)⟩
  have hcs2 : ((List.range ys.length).map f).length = ys.length := by simp
  have hat2 : ∀ i (hi : i < ((List.range ys.length).map f).length), ((List.range ys.length).map f)[i] = f i := fun i hi => by simp
  have hlens : ∀ i (hi : i < ((List.range ys.length).map f).length), ((List.range ys.length).map f)[i].length = E.size := fun i hi => by
    rw [hat2]
    exact E.len (hf i (by simpa using hi)).1
  have hfl : ((List.range ys.length).map f).flatten.length = ys.length * E.size := by
    rw [List.length_flatten]
    have : ((List.range ys.length).map f).map List.length = List.replicate ys.length E.size := by
      apply List.ext_getElem
      · simp
      · intro i hi hi'
        have := hlens i (by simpa using hi)
        simp at this ⊢
        exact this
    rw [this]
    simp
  refine wp_app s x t ho (size := E.size) hE E.pos hs h3 A ys.length c ((List.range ys.length).map f).flatten hx hfl ?_ ?_ ?_ hlen hb ?_
  · intro hA
    rcases Nat.eq_zero_or_pos ys.length with h0 | h0
    · exact h0
    · obtain ⟨g, o, eA, _⟩ := hc (by intro h; rw [h] at h0; simp at h0)
      rw [hA] at eA
      cases eA
  · intro ad hA j u hu
    have hj : j < ys.length * E.size := by rw [← hfl]; exact (List.getElem?_eq_some_iff.1 hu).1
    have hpos : 0 < ys.length := by
      rcases Nat.eq_zero_or_pos ys.length with h0 | h0
      · rw [h0] at hj; omega
      · exact h0
    obtain ⟨g, o, eA, _⟩ := hc (by intro h; rw [h] at hpos; simp at hpos)
    have hi : j / E.size < ys.length := Nat.div_lt_of_lt_mul (by rw [Nat.mul_comm]; exact hj)
    have hr : j % E.size < E.size := Nat.mod_lt _ E.pos
    have hfi := hf _ hi
    have hu2 : (f (j / E.size))[j % E.size]? = some ((f (j / E.size))[j % E.size]'(by rw [E.len hfi.1]; exact hr)) := List.getElem?_eq_getElem _
    have hfa := flatten_at hlens (i := j / E.size) (by simpa using hi) (j := j % E.size) (u := (f (j / E.size))[j % E.size]'(by rw [E.len hfi.1]; exact hr)) (by rw [hat2]; exact hu2)
    rw [show j / E.size * E.size + j % E.size = j by rw [Nat.mul_comm]; exact Nat.div_add_mod j E.size] at hfa
    rw [hu] at hfa
    injection hfa with hfa
    have hcell := hfi.2 g o eA (j % E.size) _ hu2
    rw [show o + j / E.size * E.size + j % E.size = o + j by have := Nat.div_add_mod j E.size; rw [Nat.mul_comm] at this; omega] at hcell
    rw [hA] at eA
    injection eA with eA
    subst eA
    rw [hfa, ← hcell]
    unfold Addr.add
    split
    · rename_i h0
      have : j = 0 := by simpa using h0
      subst this
      rfl
    · rfl
  · intro u hu
    obtain ⟨l, hl, hul⟩ := List.mem_flatten.1 hu
    obtain ⟨i, hi, rfl⟩ := List.mem_map.1 hl
    exact E.ones (hf i (by simpa using hi)).1 u hul
  · intro v' w' hown hg hat
    have hat' : Moved w v v' := hat.imp id fun e => ⟨_, Nat.le_refl _, e⟩
    refine h v' w' (hacc.app hcs2 (fun i hi hi' => ?_) (fun css' hc' => ?_) hg hat' hN) hg hat'
    · rw [hat2]
      exact hZ _ _ (hf i hi).1
    · rw [own_same hc' h3]
      exact hown
theorem wpList_apps {ys : List α} {A : Option Addr} {m c : Nat} {t : TypeId} {bytes : Nat} {ops : Array Oper} {rest : List Oper} {o : Oper} {a : Act} {Q : Exit → Act → World → Prop} (hgd : o.guard = none) (s x : Operand)
    (ho : o.op = .call { callee := .builtin .append, args := #[s, x], argTypes := #[t, t] }) (hE : ElemOk P t e E.size bytes) (hacc : Acc E base e X w v xs) (hs : a.eval s = v) (hx : a.eval x = .slice A m c) (hys : Sl E Z w (.slice A m c) ys) (hZ : ∀ cs y, E.rep Z w cs y → E.rep (fun g => X g ∧ some g ≠ v.ownBlock) w cs y)
    (hlen : (xs.length + ys.length) * bytes ≤ 140737488355328) (hb : base ≤ w.heap.size) (hN : ∀ g, w.heap.size ≤ g → X g)
    (h : ∀ v' w', Acc E base e X w' v' (xs ++ ys) → w.grownBy w' v.ownBlock → Moved w v v' → wpList P ops Q rest (a.put o.dst v') w') : wpList P ops Q (o :: rest) a w :=
  wpList_plain hgd fun _ hK => apps_core hE hacc hys hZ hlen hb hN s x ho hs hx fun v' w' h1 h2 h3 => hK _ _ (h v' w' h1 h2 h3)
theorem step_apps {ys : List α} {A : Option Addr} {m c : Nat} {t : TypeId} {bytes : Nat} {ops : Array Oper} {o : Oper} {a : Act} {K : Act → World → Prop} {Q : Exit → Act → World → Prop} {F : Prop} (hgd : o.guard = none) (s x : Operand)
    (ho : o.op = .call { callee := .builtin .append, args := #[s, x], argTypes := #[t, t] }) (hE : ElemOk P t e E.size bytes) (hacc : Acc E base e X w v xs) (hs : a.eval s = v) (hx : a.eval x = .slice A m c) (hys : Sl E Z w (.slice A m c) ys) (hZ : ∀ cs y, E.rep Z w cs y → E.rep (fun g => X g ∧ some g ≠ v.ownBlock) w cs y)
    (hlen : (xs.length + ys.length) * bytes ≤ 140737488355328) (hb : base ≤ w.heap.size) (hN : ∀ g, w.heap.size ≤ g → X g)
    (h : ∀ v' w', Acc E base e X w' v' (xs ++ ys) → w.grownBy w' v.ownBlock → Moved w v v' → K (a.put o.dst v') w') : if Region.wanted o (yielded ops a.tmps) = true then Oper.wp P o a w K Q else F := by
  have hw : Region.wanted o (yielded ops a.tmps) = true := by simp [Region.wanted, hgd]
  rw [if_pos hw]
  exact apps_core hE hacc hys hZ hlen hb hN s x ho hs hx h
theorem Acc.made (E : Enc α) (w : World) (e : TypeId) {B : Nat} (hB : B ≤ w.heap.size) (X : Nat → Prop) (hX : X w.heap.size) : Acc E B e X (w.alloc (.cells #[] e)) (.slice (some ⟨w.heap.size, 0, none⟩) 0 0) [] :=
  ⟨fun g hg => by simp [Value.ownBlock] at hg; subst hg; exact hX, [], rfl, fun i hi => absurd hi (by simp), World.ownsRow_made w #[] 0 hB (Nat.zero_le _) (by simp)⟩
theorem Acc.ne_bk (h : Acc E base e X w v xs) {g : Nat} {t : TypeId} {cs : Array Value} (hb : Bk w g t cs) (hne : e ≠ t) : v.ownBlock ≠ some g := by
  obtain ⟨_, css, _, _, h3⟩ := h
  rcases h3.2 with ⟨rfl, _⟩ | ⟨g', cap, cur, rfl, _, hh, _⟩
  · simp [Value.ownBlock]
  · intro he
    have : g' = g := by simpa [Value.ownBlock] using he
    subst this
    unfold Bk at hb
    rw [hb] at hh
    injection hh with hh
    injection hh with _ ht
    exact hne ht.symm
end
end Go.Proofs.YtnjbigbiclfcoaaDoor
