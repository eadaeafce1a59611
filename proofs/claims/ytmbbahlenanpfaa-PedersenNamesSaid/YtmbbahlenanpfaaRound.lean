/- A drawn region in the round of a range over a function, at the wide fence, walked by the plain laws. -/
import Derived.Test.YtmbbahlenanpfaaBase
import Derived.RangeFuncNested
import Derived.RangeFuncCalls
import Derived.OwnWalkIn
import Derived.OrdersIn
import Derived.Deep.RegionHeld3
namespace Go.Proofs.Ytmbbahlenanpfaa
open Go Go.RowKit

section
variable {P : Program} {ops : Array Oper} {md : Region.Mode} {R : Act → World → Prop} {Q : Exit → Act → World → Prop} {l0 n : Nat}
/-- What is said of the way that goes on alone. -/
def Only (R : Act → World → Prop) : Exit → Act → World → Prop := fun e a w => e = .normal ∧ R a w
theorem only_letsOut : ¬ LetsOut (Only R) := by
  rintro ⟨a, w, e, _⟩
  cases e
theorem operIn_of_wp {o : Oper} {a : Act} {w : World} {K K' : Act → World → Prop} (hd : ∀ c, o.op ≠ .defer c) (hK : ∀ a w, K a w → K' a w) (h : o.wp P a w K (Only R)) : o.wpIn (Fence.wide.inRound l0) n P a w K' Q := by
  refine ⟨fun _ _ => trivial, ?_⟩
  rw [Oper.semAt_plain _ _ _ hd]
  unfold Oper.wp at h
  generalize (execOp a.eval o).run P w = r at *
  cases r with
  | ok x w' =>
    cases x with
    | value v => exact hK _ _ h
    | skip => exact hK _ _ h
    | defer d => exact hK _ _ h
    | enter f args =>
      refine ⟨fun h => by simp [Fence.wide] at h, CallsIn.inRound l0 (callsIn_wide.2 ?_)⟩
      refine Calls.mono h ?_
      intro e w'' he
      cases e with
      | returned v => exact hK _ _ he
      | panicked c => exact absurd he.1 (by simp)
      | outgrown => exact absurd he only_letsOut
    | row row args =>
      refine ⟨fun h => by simp [Fence.wide] at h, fun c cs _ => ?_⟩
      obtain ⟨v, w'', r, s⟩ := h c cs
      exact ⟨v, w'', hK _ _ r, stepsIn_wide.2 s⟩
    | round l f ts c1 c2 => exact h.elim
    | _ => exact h.elim
  | halt x w' =>
    cases x with
    | panic v => exact absurd h.1 (by simp)
    | _ => exact h.elim
theorem wpAnyIn_of_any (hd : ∀ (i : Nat) (o : Oper) c, ops[i]? = some o → o.op ≠ .defer c) (hR : ∀ a w, R a w → Q .normal a w) :
    ∀ (f : Nat) (listed : Array Bool) (a : Act) (w : World), wpAny P md ops (Only R) f listed a w → wpAnyIn (Fence.wide.inRound l0) n P md ops Q f listed a w := by
  intro f
  induction f with
  | zero => intro listed a w h; exact ⟨h.1, hR _ _ h.2.2⟩
  | succ f ih =>
    intro listed a w h
    refine ⟨fun e => hR _ _ (h.1 e).2, fun i hi => ?_⟩
    have h2 := h.2 i hi
    unfold wpOp at h2
    unfold wpOpIn
    cases ho : ops[i]? with
    | none => simp only [ho] at h2 ⊢; exact ih _ _ _ h2
    | some o =>
      simp only [ho] at h2 ⊢
      split
      · rename_i hw
        rw [if_pos hw] at h2
        rcases h2 with h2 | h2
        · exact operIn_of_wp (fun c => hd i o c ho) (fun a w k => ih _ _ _ k) h2
        · exact absurd h2.2 only_letsOut
      · rename_i hw
        rw [if_neg hw] at h2
        exact ⟨fun _ _ => trivial, ih _ _ _ h2⟩
def noDefer (ops : Array Oper) : Bool := ops.all fun o => match o.op with | .defer _ => false | _ => true
theorem noDefer_spec (h : noDefer ops = true) : ∀ (i : Nat) (o : Oper) c, ops[i]? = some o → o.op ≠ .defer c := by
  intro i o c hi e
  obtain ⟨hlt, hk⟩ := Array.getElem?_eq_some_iff.1 hi
  have := Array.all_eq_true.1 h i hlt
  rw [hk, e] at this
  exact absurd this (by simp)
/-- The law. -/
theorem wpIn_round_held {S : World → Prop} {id : Nat} {a : Act} {w : World} (hm : P.follows .mixedOrders = true) (hdf : noDefer ops = true) (hS : S w.drew) (hR : ∀ a w, R a w → Q .normal a w)
    (h : S w.drew → wpAnyH P .any ops (Only R) S ops.size (Array.replicate ops.size false) a w.drew) : (Code.region id ops true).wpIn (Fence.wide.inRound l0) n P Q a w :=
  wpIn_region_any hm (wpAnyIn_of_any (noDefer_spec hdf) hR _ _ _ _ (wpAny_of_held _ _ _ _ (h hS)))
end
theorem wpAnyH_mono {P : Program} {md : Region.Mode} {ops : Array Oper} {Q : Exit → Act → World → Prop} {S S' : World → Prop} (hS : ∀ w, S' w → S w) : ∀ (fuel : Nat) (done : Array Bool) (a : Act) (w : World), wpAnyH P md ops Q S' fuel done a w → wpAnyH P md ops Q S fuel done a w := by
  intro fuel
  induction fuel with
  | zero => intro done a w h; exact h
  | succ f ih => intro done a w h; exact ⟨h.1, fun i hi => wpOp_mono (fun a' w' k => ⟨hS _ k.1, ih _ a' w' k.2⟩) (h.2 i hi)⟩
end Go.Proofs.Ytmbbahlenanpfaa
