/- pedersen.pairs' contracts and pedersen.Coms. -/
import Derived.Test.YtmbbahlenanpfaaPedD
import Derived.Test.YtmbbahlenanpfaaPedA
import Derived.Test.YtmbbahlenanpfaaElOk
namespace Go.Proofs.Ytmbbahlenanpfaa
open Go Go.RowKit Go.Shelf

attribute [local go_sem] Oper.semAt_some
theorem pairsU_any (A B : Option Addr) (m1 c1 m2 c2 : Nat) (w : World) :
    Calls Try.prog 23 #[.slice A m1 c1, .slice B m2 c2] w fun e w' => e = .returned (.func (.func 37) #[] #[.pointer (some ⟨w.heap.size, 0, none⟩), .pointer (some ⟨w.heap.size + 1, 0, none⟩)]) ∧ w' = (w.alloc (.cells #[.slice A m1 c1] 27)).alloc (.cells #[.slice B m2 c2] 27) := by
  go_enter Try.func23, Try.ntmps23
  go_wp2
  go_ret
  exact ⟨rfl, rfl⟩
theorem pairsS_any (A B : Option Addr) (m1 c1 m2 c2 : Nat) (w : World) :
    Calls Try.prog 22 #[.slice A m1 c1, .slice B m2 c2] w fun e w' => e = .returned (.func (.func 35) #[] #[.pointer (some ⟨w.heap.size, 0, none⟩), .pointer (some ⟨w.heap.size + 1, 0, none⟩)]) ∧ w' = (w.alloc (.cells #[.slice A m1 c1] 28)).alloc (.cells #[.slice B m2 c2] 28) := by
  go_enter Try.func22, Try.ntmps22
  go_wp2
  go_ret
  exact ⟨rfl, rfl⟩
theorem pairsM_any (A B : Option Addr) (m1 c1 m2 c2 : Nat) (w : World) :
    Calls Try.prog 27 #[.slice A m1 c1, .slice B m2 c2] w fun e w' => e = .returned (.func (.func 41) #[] #[.pointer (some ⟨w.heap.size, 0, none⟩), .pointer (some ⟨w.heap.size + 1, 0, none⟩)]) ∧ w' = (w.alloc (.cells #[.slice A m1 c1] 29)).alloc (.cells #[.slice B m2 c2] 29) := by
  go_enter Try.func27, Try.ntmps27
  go_wp2
  go_ret
  exact ⟨rfl, rfl⟩
theorem KpAB.b {n₀ Ba Bb : Nat} {w : World} (hn : n₀ ≤ w.heap.size) (ha : Ba < w.heap.size) (hb : Bb < w.heap.size) (W : World) (l : Nat) (o o' : Obj) (hl : w.heap.size ≤ l) (h : W.heap[l]? = some o) (h1 : o.isCells = false) (h2 : o.isWalk = false) : KpAB n₀ Ba Bb W (W.putObj l o') := by
  have hlt := (Array.getElem?_eq_some_iff.1 h).1
  have hg := grownBy_putObj' W l o'
  exact ⟨belowK_b hn W l o o' hl h h1 h2, hg.block _ (by omega) (fun e => by injection e with e; omega), hg.block _ (by omega) (fun e => by injection e with e; omega)⟩
theorem Boxed.bumped {W W' : World} {B B' : Nat} {t : TypeId} {v : Value} (h : Boxed W B t v) (h' : Boxed W' B t v) : W'.heap[B]? = W.heap[B]? := Eq.trans h' (Eq.symm h)
theorem boxNe {W : World} {B : Nat} {t : TypeId} {v : Value} (h : Boxed W B t v) {row : Option Nat} (hr : ∀ r, row = some r → ∃ o : Obj, W.heap[r]? = some o ∧ o.isCells = false) : some B ≠ row := cell_ne h.cell hr
theorem Acc.keeps {α : Type} {E : Enc α} {base : Nat} {e : TypeId} {X : Nat → Prop} {w w' : World} {v : Value} {xs : List α} (h : Acc E base e X w v xs) (hg : w.grownBy w' v.ownBlock) : KeepsOthers w w' := KeepsOthers.of_grownBy hg fun j o ej hj => by
  obtain ⟨_, css, _, _, h3⟩ := h
  rcases h3.2 with ⟨rfl, _⟩ | ⟨g, cap, cur, rfl, _, hgb, _⟩
  · simp [Value.ownBlock] at ej
  · obtain rfl : g = j := by simpa [Value.ownBlock] using ej
    rw [hgb] at hj
    cases hj
    rfl
theorem keeps_none {w w' : World} (hg : w.grownBy w' none) : KeepsOthers w w' := KeepsOthers.of_grownBy hg (by simp)
section
variable {α : Type} {P : Program} {E : Enc α} {base : Nat} {e : TypeId} {X Y : Nat → Prop} {w : World} {v : Value} {xs : List α} {l0 n : Nat}
theorem wpListIn_push {cs : List Value} {y : α} {t : TypeId} {bytes : Nat} {ops : Array Oper} {rest : List Oper} {o : Oper} {a : Act} {Q : Exit → Act → World → Prop} (hgd : o.guard = none) (s x : Operand)
    (ho : o.op = .call { callee := .builtin .append, args := #[s, x], argTypes := #[t, t] }) (hE : ElemOk P t e E.size bytes) (hacc : Acc E base e X w v xs) (hs : a.eval s = v) (hx : a.eval x = .slice (some ⟨w.heap.size, 0, none⟩) 1 1) (hrep : E.rep (fun g => X g ∧ some g ≠ v.ownBlock) w cs y)
    (hlen : (xs.length + 1) * bytes ≤ 140737488355328) (hb : base ≤ w.heap.size) (hN : ∀ g, w.heap.size ≤ g → X g)
    (h : ∀ v' w', Acc E base e X w' v' (xs ++ [y]) → w.grownBy w' v.ownBlock → Moved w v v' → wpListIn (Fence.wide.inRound l0) n P ops Q rest (a.put o.dst v') w') : wpListIn (Fence.wide.inRound l0) n P ops Q (o :: rest) a (w.alloc (.cells cs.toArray e)) :=
  wpListIn_plain hgd fun K hK => operIn_of_wp (R := fun _ _ => True) (K := K) (K' := K) (by rw [ho]; intro c hc; cases hc) (fun _ _ h => h) (push_core hE hacc hrep hlen hb hN s x ho hs hx fun v' w' h1 h2 h3 => hK _ _ (h v' w' h1 h2 h3))
end
theorem pairsS_stops (n : Nat) (hn : 1 ≤ n) (Ba Bb : Nat) (va vb : Value) (a b : List (List Int)) (X : Nat → Prop) (w₀ w1 : World) (G : List Int → Prop) (hG0 : G []) (hGa : ∀ c ∈ a, G c) (hGb : ∀ c ∈ b, G c) (h01 : Below w₀.heap.size w₀ w1) (hBa : Boxed w1 Ba 28 va) (hBb : Boxed w1 Bb 28 vb) (hA : Sl (encS encU) X w₀ va a) (hB : Sl (encS encU) X w₀ vb b) :
    SeqStopsK Fence.wide n Try.prog 35 #[.pointer (some ⟨Ba, 0, none⟩), .pointer (some ⟨Bb, 0, none⟩)] (fun x : SS encU X w₀ G => #[x.1.1.1, x.1.2.1]) (KpAB w₀.heap.size Ba Bb) (fun ys => ys.map SS.lists = zipS a b) (fun _ => True) (zipS a b).length w1 := fun l J Jx W hW hJ _ hY h0 =>
  pairsS_in n hn l Ba Bb va vb a b X w₀ G hG0 hGa hGb J Jx hY W hJ (h01.trans (hW.mono h01.size)) ((hW.5 Ba hBa.lt).trans hBa) ((hW.5 Bb hBb.lt).trans hBb) hA hB h0
theorem pairsU_stops (n : Nat) (hn : 1 ≤ n) (Ba Bb : Nat) (va vb : Value) (a b : List Int) (X : Nat → Prop) (w₀ w1 : World) (h01 : Below w₀.heap.size w₀ w1) (hBa : Boxed w1 Ba 27 va) (hBb : Boxed w1 Bb 27 vb) (hA : Sl encU X w₀ va a) (hB : Sl encU X w₀ vb b) :
    SeqStopsK Fence.wide n Try.prog 37 #[.pointer (some ⟨Ba, 0, none⟩), .pointer (some ⟨Bb, 0, none⟩)] (fun x : UU => #[.int .u64 x.1.1, .int .u64 x.1.2]) (KpAB w₀.heap.size Ba Bb) (fun ys => ys.map Subtype.val = zipU a b) (fun _ => True) (zipU a b).length w1 := fun l J Jx W hW hJ _ hY h0 =>
  pairsU_in n hn l Ba Bb va vb a b X J Jx w₀ hY W hJ (h01.trans (hW.mono h01.size)) ((hW.5 Ba hBa.lt).trans hBa) ((hW.5 Bb hBb.lt).trans hBb) hA hB h0
theorem pairsM_stops (n : Nat) (hn : 1 ≤ n) (Ba Bb : Nat) (va vb : Value) (a b : List (List (List Int))) (X : Nat → Prop) (w₀ w1 : World) (G : List (List Int) → Prop) (hG0 : G []) (hGa : ∀ c ∈ a, G c) (hGb : ∀ c ∈ b, G c) (h01 : Below w₀.heap.size w₀ w1) (hBa : Boxed w1 Ba 29 va) (hBb : Boxed w1 Bb 29 vb) (hA : Sl (encS (encS encU)) X w₀ va a) (hB : Sl (encS (encS encU)) X w₀ vb b) :
    SeqStopsK Fence.wide n Try.prog 41 #[.pointer (some ⟨Ba, 0, none⟩), .pointer (some ⟨Bb, 0, none⟩)] (fun x : SS (encS encU) X w₀ G => #[x.1.1.1, x.1.2.1]) (KpAB w₀.heap.size Ba Bb) (fun ys => ys.map SS.lists = zipS a b) (fun _ => True) (zipS a b).length w1 := fun l J Jx W hW hJ _ hY h0 =>
  pairsM_in n hn l Ba Bb va vb a b X w₀ G hG0 hGa hGb J Jx hY W hJ (h01.trans (hW.mono h01.size)) ((hW.5 Ba hBa.lt).trans hBa) ((hW.5 Bb hBb.lt).trans hBb) hA hB h0
end Go.Proofs.Ytmbbahlenanpfaa
