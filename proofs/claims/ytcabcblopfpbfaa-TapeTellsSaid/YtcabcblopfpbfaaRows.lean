/-
  No cell of these rows narrows 'for every input' (looked for: loops, veiled, ifaces, maps, wideKeys, modest, calm, conditions, laid).
  DERIVED. THE GIVEN ROWS OF THIS SEAT. 7 by the template 'for every input the law returns true; each argument reads behind the call as it read before'; 0 by the template 'total and deterministic' (their statements: YtcabcblopfpbfaaTotals.lean).
  GIVEN WITH THE SEED: the statements are not yours to turn. If you find one false, say at which input.
  Laid BY PROGRAM, IN A SANDBOX (cutbox-rows.mjs): the forced cells as the released guide's own fill.sh prints them over the translation b8199e5f31192c00… (all of the seat's roots in one cut). By AI agents, Wed Nov 11 2026. No macro, syntax, notation, axiom, sorry.
-/
import Derived.Test.YtcabcblopfpbfaaChecked
import GoSem.Claim
import GoSem.ClaimJoined
import GoSem.ClaimMapViews
import Derived.JoinedTies
import Derived.KernelRfl
namespace Go.Proofs.Ytcabcblopfpbfaa
/- THE CELL 'sum', in the pinned program and in every row, IS THE sha256 OF THE DUMP (.gsa) THAT YtcabcblopfpbfaaProg.lean LOADS. Nothing in Lean hashes anything: it is a label: what it is worth is what the hold of that sum in a sandbox is worth. -/
noncomputable def Try.pinned : Pinned := { name := "ytcabcblopfpbfaa", sum := "b8199e5f31192c00a663433d3f3f0529b59f538ff042412bf137c06b0440131b", checked := Try.checked }
namespace Rows
def none {H : Type} : Left H := { results := [], args := [] }

/-- 'consistorylaw12.TapeBelow': WHATEVER THE INPUT: true; the input reads as it did. -/
def tapeBelowSpec : ChangeSpec := { name := "tapeBelow", fn := fun _ => fun
  | [d1, d2, d3] => { results := [.lit (.bool true)], args := [d1, d2, d3] }
  | _ => none }
def tapeBelowRow : OpenClaim := { program := "ytcabcblopfpbfaa", sum := "b8199e5f31192c00a663433d3f3f0529b59f538ff042412bf137c06b0440131b", func := "consistory/consistorylaw12.TapeBelow", spec := "tapeBelow", named := ["math/bits.divideError", "math/bits.overflowError"], apart := false }
def TapeBelowSaid : Prop := tapeBelowRow.holds Try.pinned (OpenSpec.ofChange tapeBelowSpec)

/-- ITS FALSE NEIGHBOUR: 'it returns false'. Refute it at one input. -/
def tapeBelowWrong : ChangeSpec := { name := "tapeBelow", fn := fun _ => fun
  | [d1, d2, d3] => { results := [.lit (.bool false)], args := [d1, d2, d3] }
  | _ => none }
def TapeBelowWrongFalsely : Prop := tapeBelowRow.holds Try.pinned (OpenSpec.ofChange tapeBelowWrong)

/-- 'consistorylaw12.TapeJumps': WHATEVER THE INPUT: true; the input reads as it did. -/
def tapeJumpsSpec : ChangeSpec := { name := "tapeJumps", fn := fun _ => fun
  | [d1, d2, d3] => { results := [.lit (.bool true)], args := [d1, d2, d3] }
  | _ => none }
def tapeJumpsRow : OpenClaim := { program := "ytcabcblopfpbfaa", sum := "b8199e5f31192c00a663433d3f3f0529b59f538ff042412bf137c06b0440131b", func := "consistory/consistorylaw12.TapeJumps", spec := "tapeJumps", named := ["math/bits.divideError", "math/bits.overflowError"], apart := false }
def TapeJumpsSaid : Prop := tapeJumpsRow.holds Try.pinned (OpenSpec.ofChange tapeJumpsSpec)

/-- ITS FALSE NEIGHBOUR: 'it returns false'. Refute it at one input. -/
def tapeJumpsWrong : ChangeSpec := { name := "tapeJumps", fn := fun _ => fun
  | [d1, d2, d3] => { results := [.lit (.bool false)], args := [d1, d2, d3] }
  | _ => none }
def TapeJumpsWrongFalsely : Prop := tapeJumpsRow.holds Try.pinned (OpenSpec.ofChange tapeJumpsWrong)

/-- 'consistorylaw12.TapeAhead': WHATEVER THE INPUT: true; the input reads as it did. -/
def tapeAheadSpec : ChangeSpec := { name := "tapeAhead", fn := fun _ => fun
  | [d1, d2, d3] => { results := [.lit (.bool true)], args := [d1, d2, d3] }
  | _ => none }
def tapeAheadRow : OpenClaim := { program := "ytcabcblopfpbfaa", sum := "b8199e5f31192c00a663433d3f3f0529b59f538ff042412bf137c06b0440131b", func := "consistory/consistorylaw12.TapeAhead", spec := "tapeAhead", named := ["math/bits.divideError", "math/bits.overflowError"], apart := false }
def TapeAheadSaid : Prop := tapeAheadRow.holds Try.pinned (OpenSpec.ofChange tapeAheadSpec)

/-- ITS FALSE NEIGHBOUR: 'it returns false'. Refute it at one input. -/
def tapeAheadWrong : ChangeSpec := { name := "tapeAhead", fn := fun _ => fun
  | [d1, d2, d3] => { results := [.lit (.bool false)], args := [d1, d2, d3] }
  | _ => none }
def TapeAheadWrongFalsely : Prop := tapeAheadRow.holds Try.pinned (OpenSpec.ofChange tapeAheadWrong)

/-- 'consistorylaw12.TapeEvenly': WHATEVER THE INPUT: true; the input reads as it did. -/
def tapeEvenlySpec : ChangeSpec := { name := "tapeEvenly", fn := fun _ => fun
  | [d1, d2, d3, d4] => { results := [.lit (.bool true)], args := [d1, d2, d3, d4] }
  | _ => none }
def tapeEvenlyRow : OpenClaim := { program := "ytcabcblopfpbfaa", sum := "b8199e5f31192c00a663433d3f3f0529b59f538ff042412bf137c06b0440131b", func := "consistory/consistorylaw12.TapeEvenly", spec := "tapeEvenly", named := ["math/bits.divideError", "math/bits.overflowError"], apart := false }
def TapeEvenlySaid : Prop := tapeEvenlyRow.holds Try.pinned (OpenSpec.ofChange tapeEvenlySpec)

/-- ITS FALSE NEIGHBOUR: 'it returns false'. Refute it at one input. -/
def tapeEvenlyWrong : ChangeSpec := { name := "tapeEvenly", fn := fun _ => fun
  | [d1, d2, d3, d4] => { results := [.lit (.bool false)], args := [d1, d2, d3, d4] }
  | _ => none }
def TapeEvenlyWrongFalsely : Prop := tapeEvenlyRow.holds Try.pinned (OpenSpec.ofChange tapeEvenlyWrong)

/-- 'consistorylaw12.TapeNames': WHATEVER THE INPUT: true; the input reads as it did. -/
def tapeNamesSpec : ChangeSpec := { name := "tapeNames", fn := fun _ => fun
  | [] => { results := [.lit (.bool true)], args := [] }
  | _ => none }
def tapeNamesRow : OpenClaim := { program := "ytcabcblopfpbfaa", sum := "b8199e5f31192c00a663433d3f3f0529b59f538ff042412bf137c06b0440131b", func := "consistory/consistorylaw12.TapeNames", spec := "tapeNames", named := ["math/bits.divideError", "math/bits.overflowError"], apart := false }
def TapeNamesSaid : Prop := tapeNamesRow.holds Try.pinned (OpenSpec.ofChange tapeNamesSpec)

/-- ITS FALSE NEIGHBOUR: 'it returns false'. Refute it at one input. -/
def tapeNamesWrong : ChangeSpec := { name := "tapeNames", fn := fun _ => fun
  | [] => { results := [.lit (.bool false)], args := [] }
  | _ => none }
def TapeNamesWrongFalsely : Prop := tapeNamesRow.holds Try.pinned (OpenSpec.ofChange tapeNamesWrong)

/-- 'consistorylaw12.TapeTells': WHATEVER THE INPUT: true; the input reads as it did. -/
def tapeTellsSpec : ChangeSpec := { name := "tapeTells", fn := fun _ => fun
  | [d1, d2, d3, d4] => { results := [.lit (.bool true)], args := [d1, d2, d3, d4] }
  | _ => none }
def tapeTellsRow : OpenClaim := { program := "ytcabcblopfpbfaa", sum := "b8199e5f31192c00a663433d3f3f0529b59f538ff042412bf137c06b0440131b", func := "consistory/consistorylaw12.TapeTells", spec := "tapeTells", named := ["math/bits.divideError", "math/bits.overflowError"], apart := false }
def TapeTellsSaid : Prop := tapeTellsRow.holds Try.pinned (OpenSpec.ofChange tapeTellsSpec)

/-- ITS FALSE NEIGHBOUR: 'it returns false'. Refute it at one input. -/
def tapeTellsWrong : ChangeSpec := { name := "tapeTells", fn := fun _ => fun
  | [d1, d2, d3, d4] => { results := [.lit (.bool false)], args := [d1, d2, d3, d4] }
  | _ => none }
def TapeTellsWrongFalsely : Prop := tapeTellsRow.holds Try.pinned (OpenSpec.ofChange tapeTellsWrong)

/-- 'consistorylaw12.TapeSame': WHATEVER THE INPUT: true; the input reads as it did. -/
def tapeSameSpec : ChangeSpec := { name := "tapeSame", fn := fun _ => fun
  | [d1, d2, d3, d4] => { results := [.lit (.bool true)], args := [d1, d2, d3, d4] }
  | _ => none }
def tapeSameRow : OpenClaim := { program := "ytcabcblopfpbfaa", sum := "b8199e5f31192c00a663433d3f3f0529b59f538ff042412bf137c06b0440131b", func := "consistory/consistorylaw12.TapeSame", spec := "tapeSame", named := ["math/bits.divideError", "math/bits.overflowError"], apart := false }
def TapeSameSaid : Prop := tapeSameRow.holds Try.pinned (OpenSpec.ofChange tapeSameSpec)

/-- ITS FALSE NEIGHBOUR: 'it returns false'. Refute it at one input. -/
def tapeSameWrong : ChangeSpec := { name := "tapeSame", fn := fun _ => fun
  | [d1, d2, d3, d4] => { results := [.lit (.bool false)], args := [d1, d2, d3, d4] }
  | _ => none }
def TapeSameWrongFalsely : Prop := tapeSameRow.holds Try.pinned (OpenSpec.ofChange tapeSameWrong)

/- THE SECOND FORM. 'bulk': how many values and letters a reading holds, each counted each time it is reached (what is shared counts as often as it is met; a slice's spare places count too). A statement '..UptoSaid' is the law's where the arguments, and the package variables that the reading takes, are together of bulk at most 1048576: NARROWER than '..Said'. Prove '..Said' where nothing that the law and all that it calls make is longer than what came in: it says more and counts as full. Else prove '..UptoSaid'. A law counts once. -/
mutual
def uptoBulk {H : Type} : DataW H → Nat
  | .lit (.string bytes) => bytes.length + 1
  | .lit _ => 1
  | .nil => 1
  | .ptr d => uptoBulk d + 1
  | .slice elems spare => uptoBulkAll elems + uptoBulkAll spare + 1
  | .agg parts => uptoBulkAll parts + 1
  | .iface _ d => uptoBulk d + 1
  | .map entries => uptoBulkEntries entries + 1
  | .held _ => 1
def uptoBulkAll {H : Type} : List (DataW H) → Nat
  | [] => 0
  | d :: r => uptoBulk d + uptoBulkAll r
def uptoBulkEntries {H : Type} : List (Lit × DataW H) → Nat
  | [] => 0
  | x :: r => uptoBulkEntry x + uptoBulkEntries r
def uptoBulkEntry {H : Type} : Lit × DataW H → Nat
  | (.string bytes, d) => bytes.length + uptoBulk d + 1
  | (_, d) => uptoBulk d + 1
 end
def uptoSmall : (H : Type) → List (DataW H) → Bool := fun _ ds => decide (uptoBulkAll ds ≤ 1048576)
def OpenSpec.upto (s : _root_.Go.ChangeSpec) : _root_.Go.OpenSpec := { _root_.Go.OpenSpec.ofChange s with cond := some uptoSmall }

/-- 'consistorylaw12.TapeBelow', WHERE WHAT IT READS IS OF BULK AT MOST 1048576: true; the input reads as it did. -/
def tapeBelowUptoRow : OpenClaim := { program := "ytcabcblopfpbfaa", sum := "b8199e5f31192c00a663433d3f3f0529b59f538ff042412bf137c06b0440131b", func := "consistory/consistorylaw12.TapeBelow", spec := "tapeBelow", named := ["math/bits.divideError", "math/bits.overflowError"], apart := false, narrowed := true }
def TapeBelowUptoSaid : Prop := tapeBelowUptoRow.holds Try.pinned (OpenSpec.upto tapeBelowSpec)

/-- 'consistorylaw12.TapeJumps', WHERE WHAT IT READS IS OF BULK AT MOST 1048576: true; the input reads as it did. -/
def tapeJumpsUptoRow : OpenClaim := { program := "ytcabcblopfpbfaa", sum := "b8199e5f31192c00a663433d3f3f0529b59f538ff042412bf137c06b0440131b", func := "consistory/consistorylaw12.TapeJumps", spec := "tapeJumps", named := ["math/bits.divideError", "math/bits.overflowError"], apart := false, narrowed := true }
def TapeJumpsUptoSaid : Prop := tapeJumpsUptoRow.holds Try.pinned (OpenSpec.upto tapeJumpsSpec)

/-- 'consistorylaw12.TapeAhead', WHERE WHAT IT READS IS OF BULK AT MOST 1048576: true; the input reads as it did. -/
def tapeAheadUptoRow : OpenClaim := { program := "ytcabcblopfpbfaa", sum := "b8199e5f31192c00a663433d3f3f0529b59f538ff042412bf137c06b0440131b", func := "consistory/consistorylaw12.TapeAhead", spec := "tapeAhead", named := ["math/bits.divideError", "math/bits.overflowError"], apart := false, narrowed := true }
def TapeAheadUptoSaid : Prop := tapeAheadUptoRow.holds Try.pinned (OpenSpec.upto tapeAheadSpec)

/-- 'consistorylaw12.TapeEvenly', WHERE WHAT IT READS IS OF BULK AT MOST 1048576: true; the input reads as it did. -/
def tapeEvenlyUptoRow : OpenClaim := { program := "ytcabcblopfpbfaa", sum := "b8199e5f31192c00a663433d3f3f0529b59f538ff042412bf137c06b0440131b", func := "consistory/consistorylaw12.TapeEvenly", spec := "tapeEvenly", named := ["math/bits.divideError", "math/bits.overflowError"], apart := false, narrowed := true }
def TapeEvenlyUptoSaid : Prop := tapeEvenlyUptoRow.holds Try.pinned (OpenSpec.upto tapeEvenlySpec)

/-- 'consistorylaw12.TapeNames', WHERE WHAT IT READS IS OF BULK AT MOST 1048576: true; the input reads as it did. -/
def tapeNamesUptoRow : OpenClaim := { program := "ytcabcblopfpbfaa", sum := "b8199e5f31192c00a663433d3f3f0529b59f538ff042412bf137c06b0440131b", func := "consistory/consistorylaw12.TapeNames", spec := "tapeNames", named := ["math/bits.divideError", "math/bits.overflowError"], apart := false, narrowed := true }
def TapeNamesUptoSaid : Prop := tapeNamesUptoRow.holds Try.pinned (OpenSpec.upto tapeNamesSpec)

/-- 'consistorylaw12.TapeTells', WHERE WHAT IT READS IS OF BULK AT MOST 1048576: true; the input reads as it did. -/
def tapeTellsUptoRow : OpenClaim := { program := "ytcabcblopfpbfaa", sum := "b8199e5f31192c00a663433d3f3f0529b59f538ff042412bf137c06b0440131b", func := "consistory/consistorylaw12.TapeTells", spec := "tapeTells", named := ["math/bits.divideError", "math/bits.overflowError"], apart := false, narrowed := true }
def TapeTellsUptoSaid : Prop := tapeTellsUptoRow.holds Try.pinned (OpenSpec.upto tapeTellsSpec)

/-- 'consistorylaw12.TapeSame', WHERE WHAT IT READS IS OF BULK AT MOST 1048576: true; the input reads as it did. -/
def tapeSameUptoRow : OpenClaim := { program := "ytcabcblopfpbfaa", sum := "b8199e5f31192c00a663433d3f3f0529b59f538ff042412bf137c06b0440131b", func := "consistory/consistorylaw12.TapeSame", spec := "tapeSame", named := ["math/bits.divideError", "math/bits.overflowError"], apart := false, narrowed := true }
def TapeSameUptoSaid : Prop := tapeSameUptoRow.holds Try.pinned (OpenSpec.upto tapeSameSpec)

end Rows
end Go.Proofs.Ytcabcblopfpbfaa
