/-
  No cell of these rows narrows 'for every input' (looked for: loops, veiled, ifaces, maps, wideKeys, modest, calm, conditions, laid).
  DERIVED. THE GIVEN ROWS OF THIS SEAT. 2 by the template 'for every input the law returns true; each argument reads behind the call as it read before'; 0 by the template 'total and deterministic' (their statements: YtoibeeecmkpdpaaTotals.lean).
  GIVEN WITH THE SEED: the statements are not yours to turn. If you find one false, say at which input.
  Laid BY PROGRAM, IN A SANDBOX (cutbox-rows.mjs): the forced cells as the released guide's own fill.sh prints them over the translation afa07672654d46e6… (all of the seat's roots in one cut). By AI agents, Wed Nov 11 2026. No macro, syntax, notation, axiom, sorry.
-/
import Derived.Test.YtoibeeecmkpdpaaChecked
import GoSem.Claim
import GoSem.ClaimJoined
import GoSem.ClaimMapViews
import Derived.JoinedTies
import Derived.KernelRfl
namespace Go.Proofs.Ytoibeeecmkpdpaa
/- THE CELL 'sum', in the pinned program and in every row, IS THE sha256 OF THE DUMP (.gsa) THAT YtoibeeecmkpdpaaProg.lean LOADS. Nothing in Lean hashes anything: it is a label: what it is worth is what the hold of that sum in a sandbox is worth. -/
noncomputable def Try.pinned : Pinned := { name := "ytoibeeecmkpdpaa", sum := "afa07672654d46e6f5b7513a42f14bb646595aba6a4cba4b3460e5a750e415e9", checked := Try.checked }
namespace Rows
def none {H : Type} : Left H := { results := [], args := [] }

/-- 'consistorylaw18.DealOpens': WHATEVER THE INPUT: true; the input reads as it did. -/
def dealOpensSpec : ChangeSpec := { name := "dealOpens", fn := fun _ => fun
  | [d1, d2, d3] => { results := [.lit (.bool true)], args := [d1, d2, d3] }
  | _ => none }
def dealOpensRow : OpenClaim := { program := "ytoibeeecmkpdpaa", sum := "afa07672654d46e6f5b7513a42f14bb646595aba6a4cba4b3460e5a750e415e9", func := "consistory/consistorylaw18.DealOpens", spec := "dealOpens", unfollowed := true, recurses := true, apart := false }
def DealOpensSaid : Prop := dealOpensRow.holds Try.pinned (OpenSpec.ofChange dealOpensSpec)

/-- ITS FALSE NEIGHBOUR: 'it returns false'. Refute it at one input. -/
def dealOpensWrong : ChangeSpec := { name := "dealOpens", fn := fun _ => fun
  | [d1, d2, d3] => { results := [.lit (.bool false)], args := [d1, d2, d3] }
  | _ => none }
def DealOpensWrongFalsely : Prop := dealOpensRow.holds Try.pinned (OpenSpec.ofChange dealOpensWrong)

/-- 'consistorylaw18.DealTells': WHATEVER THE INPUT: true; the input reads as it did. -/
def dealTellsSpec : ChangeSpec := { name := "dealTells", fn := fun _ => fun
  | [d1, d2, d3, d4, d5, d6] => { results := [.lit (.bool true)], args := [d1, d2, d3, d4, d5, d6] }
  | _ => none }
def dealTellsRow : OpenClaim := { program := "ytoibeeecmkpdpaa", sum := "afa07672654d46e6f5b7513a42f14bb646595aba6a4cba4b3460e5a750e415e9", func := "consistory/consistorylaw18.DealTells", spec := "dealTells", unfollowed := true, recurses := true, named := ["math/bits.divideError", "math/bits.overflowError"], apart := false }
def DealTellsSaid : Prop := dealTellsRow.holds Try.pinned (OpenSpec.ofChange dealTellsSpec)

/-- ITS FALSE NEIGHBOUR: 'it returns false'. Refute it at one input. -/
def dealTellsWrong : ChangeSpec := { name := "dealTells", fn := fun _ => fun
  | [d1, d2, d3, d4, d5, d6] => { results := [.lit (.bool false)], args := [d1, d2, d3, d4, d5, d6] }
  | _ => none }
def DealTellsWrongFalsely : Prop := dealTellsRow.holds Try.pinned (OpenSpec.ofChange dealTellsWrong)

/- THE SECOND FORM. 'bulk': how many values and letters a reading holds, each counted each time it is reached (what is shared counts as often as it is met; a slice's spare places count too). A statement '..UptoSaid' is the law's where the arguments, and the package variables that the reading takes, are together of bulk at most 1048576: NARROWER than '..Said'. Prove '..Said' where nothing that the law and all that it calls make is longer than what came in: it says more and counts as full. Else prove '..UptoSaid'. A law counts once. -/
mutual
def uptoBulk {H : Type} : DataW H → Nat
  | .lit (.string bytes) => bytes.length + 1
  | .lit _ => 1
  | .nil => 1
  | .ptr d => uptoBulk d + 1
  | .slice elems spare => uptoBulkAll elems + uptoBulkAll spare + 1
  | .agg parts => uptoBulkAll parts + 1
  | .iface _ d => uptoBulk d + 1
  | .map entries => uptoBulkEntries entries + 1
  | .held _ => 1
def uptoBulkAll {H : Type} : List (DataW H) → Nat
  | [] => 0
  | d :: r => uptoBulk d + uptoBulkAll r
def uptoBulkEntries {H : Type} : List (Lit × DataW H) → Nat
  | [] => 0
  | x :: r => uptoBulkEntry x + uptoBulkEntries r
def uptoBulkEntry {H : Type} : Lit × DataW H → Nat
  | (.string bytes, d) => bytes.length + uptoBulk d + 1
  | (_, d) => uptoBulk d + 1
 end
def uptoSmall : (H : Type) → List (DataW H) → Bool := fun _ ds => decide (uptoBulkAll ds ≤ 1048576)
def OpenSpec.upto (s : _root_.Go.ChangeSpec) : _root_.Go.OpenSpec := { _root_.Go.OpenSpec.ofChange s with cond := some uptoSmall }

/-- 'consistorylaw18.DealOpens', WHERE WHAT IT READS IS OF BULK AT MOST 1048576: true; the input reads as it did. -/
def dealOpensUptoRow : OpenClaim := { program := "ytoibeeecmkpdpaa", sum := "afa07672654d46e6f5b7513a42f14bb646595aba6a4cba4b3460e5a750e415e9", func := "consistory/consistorylaw18.DealOpens", spec := "dealOpens", unfollowed := true, recurses := true, apart := false, narrowed := true }
def DealOpensUptoSaid : Prop := dealOpensUptoRow.holds Try.pinned (OpenSpec.upto dealOpensSpec)

/-- 'consistorylaw18.DealTells', WHERE WHAT IT READS IS OF BULK AT MOST 1048576: true; the input reads as it did. -/
def dealTellsUptoRow : OpenClaim := { program := "ytoibeeecmkpdpaa", sum := "afa07672654d46e6f5b7513a42f14bb646595aba6a4cba4b3460e5a750e415e9", func := "consistory/consistorylaw18.DealTells", spec := "dealTells", unfollowed := true, recurses := true, named := ["math/bits.divideError", "math/bits.overflowError"], apart := false, narrowed := true }
def DealTellsUptoSaid : Prop := dealTellsUptoRow.holds Try.pinned (OpenSpec.upto dealTellsSpec)

end Rows
end Go.Proofs.Ytoibeeecmkpdpaa
