/- What comes in: numbers, and slices of numbers, as the walks want them; what the rows ask at the end. -/
import Derived.Test.YtcabcblopfpbfaaTapeC
import Derived.ProofKit
import Derived.OpenShut
import Derived.ChangeOld
namespace Go.Proofs.Ytcabcblopfpbfaa
open Go.ChangeShapes Go.WideShapes Go.RowKit

theorem u64_wf {a : Int} (h : (Lit.int .u64 a).wf = true) : U64 a := by
  have := bounds_u64 h
  unfold U64
  omega
def I64 (a : Int) : Prop := -9223372036854775808 ≤ a ∧ a ≤ 9223372036854775807
theorem i64_wf {a : Int} (h : (Lit.int .i64 a).wf = true) : I64 a := by
  have := bounds_i64 h
  unfold I64
  omega
/-- A slice of numbers that came in. -/
def SlArg (w : World) (v : Value) (l : List Int) : Prop := SlIs w v l ∧ ∀ x ∈ l, U64 x
theorem slArg_nil (w : World) : SlArg w (.slice none 0 0) [] := ⟨⟨none, 0, rfl, Rd.nil _ _, Nat.le_refl _, by omega⟩, by simp⟩
theorem slArg_some (w : World) (x : Addr) (l c : Nat) (zs : List Int) (hl : l ≤ c) (hm : c ≤ maxLen) (hz : zs.length = c) (hc : ∀ i, i < zs.length → w.cell? (x.add i) = some (.int .u64 (zs.getD i 0))) (hw : ∀ n ∈ zs, (Lit.int .u64 n).wf = true) :
    SlArg w (.slice (some x) l c) (zs.take l) := by
  have hlen : (zs.take l).length = l := by rw [List.length_take]; omega
  refine ⟨⟨some x, c, by rw [hlen], fun hn => ?_, by omega, by unfold maxLen at hm; omega⟩, fun y hy => u64_wf (hw y (List.mem_of_mem_take hy))⟩
  have hpos : 0 < zs.length := by
    have : (zs.take l) ≠ [] := by intro h0; rw [h0] at hn; exact hn rfl
    have := List.length_pos_iff.2 this
    rw [hlen] at this
    omega
  obtain ⟨g, o, sp⟩ := x
  have h0 := hc 0 hpos
  have hsp : sp = none := by simpa [Addr.add] using World.cell?_spot h0
  subst hsp
  have h0' : w.cell? ⟨g, o, none⟩ = some (.int .u64 (zs.getD 0 0)) := by simpa [Addr.add] using h0
  refine ⟨g, o, rfl, ?_, fun j u hu => ?_⟩
  · rcases Nat.lt_or_ge g w.heap.size with hlt | hge
    · exact hlt
    · simp [World.cell?, Array.getElem?_eq_none hge] at h0'
  · have hj : j < (zs.take l).length := by
      rcases Nat.lt_or_ge j (zs.take l).length with h | h
      · exact h
      · rw [List.getElem?_eq_none (by simpa [nums] using h)] at hu; cases hu
    have hjz : j < zs.length := by rw [hlen] at hj; omega
    have hcj := hc j hjz
    have e : (zs.take l)[j]? = some (zs.getD j 0) := by
      rw [List.getElem?_take, if_pos (by rw [hlen] at hj; exact hj)]
      simp [List.getD, List.getElem?_eq_getElem hjz]
    have hu' : u = .int .u64 (zs.getD j 0) := by
      simp only [nums, List.getElem?_map, e, Option.map_some, Option.some.injEq] at hu
      exact hu.symm
    rw [hu', ← hcj]
    unfold Addr.add
    split
    · rename_i hz0
      have : j = 0 := by simpa using hz0
      subst this
      rfl
    · rfl
/-- What a call leaves that writes nothing that was there. -/
theorem below_grown {w w' : World} (h : w.grownBy w' none) : Below w.heap.size w w' := ⟨h.os, h.tape, h.output, h.size, fun k hk => h.block k hk (by simp)⟩
end Go.Proofs.Ytcabcblopfpbfaa
