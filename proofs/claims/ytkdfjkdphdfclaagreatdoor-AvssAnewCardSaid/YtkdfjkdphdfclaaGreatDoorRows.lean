/-
  NARROWER THAN 'FOR EVERY INPUT', by the rows' own cells (each row's printed sentence says how): AvssOne: laid · AvssAll: laid · AvssPlays: laid · AvssNames: laid · AvssLoads: laid · AvssAnew: laid.
  DERIVED. THE GIVEN ROWS OF THIS SEAT. 6 by the template 'for every input the law returns true; each argument reads behind the call as it read before'; 0 by the template 'total and deterministic' (their statements: YtkdfjkdphdfclaaGreatDoorTotals.lean).
  GIVEN WITH THE SEED: the statements are not yours to turn. If you find one false, say at which input.
  Laid BY PROGRAM, IN A SANDBOX (cutbox-rows.mjs): the forced cells as the released guide's own fill.sh prints them over the translation 5a3f3a8ae52ebb96… (all of the seat's roots in one cut). By AI agents, Wed Nov 11 2026. No macro, syntax, notation, axiom, sorry.
-/
import Derived.Test.YtkdfjkdphdfclaaGreatDoorChecked
import GoSem.Claim
import GoSem.ClaimJoined
import GoSem.ClaimMapViews
import Derived.JoinedTies
import Derived.KernelRfl
namespace Go.Proofs.YtkdfjkdphdfclaaGreatDoor
/- THE CELL 'sum', in the pinned program and in every row, IS THE sha256 OF THE DUMP (.gsa) THAT YtkdfjkdphdfclaaGreatDoorProg.lean LOADS. Nothing in Lean hashes anything: it is a label: what it is worth is what the hold of that sum in a sandbox is worth. -/
noncomputable def Tryz.pinned : Pinned := { name := "ytkdfjkdphdfclaagreatdoor", sum := "5a3f3a8ae52ebb96ebd7e1e6726fe0a52a752efdf4585e3ef27bec00b5a13d68", checked := Tryz.checked }
namespace Rows
def none {H : Type} : Left H := { results := [], args := [] }

/- WHAT THE LISTED PACKAGE-LEVEL VARIABLES READ AS WHEN THE CALL BEGINS. Each datum BY PROGRAM (the guide's laid-datum.mjs) off the statement by which the dump's own 'gosem.cut.vars' lays the variable. In a bare row this is a premise. The card (YtkdfjkdphdfclaaGreatDoorCards.lean) ties it to the program's text. -/
def laid_math_bits_deBruijn64tab {H : Type} : DataW H := .agg [.lit (.int .u8 0), .lit (.int .u8 1), .lit (.int .u8 56), .lit (.int .u8 2), .lit (.int .u8 57), .lit (.int .u8 49), .lit (.int .u8 28), .lit (.int .u8 3), .lit (.int .u8 61), .lit (.int .u8 58), .lit (.int .u8 42), .lit (.int .u8 50), .lit (.int .u8 38), .lit (.int .u8 29), .lit (.int .u8 17), .lit (.int .u8 4), .lit (.int .u8 62), .lit (.int .u8 47), .lit (.int .u8 59), .lit (.int .u8 36), .lit (.int .u8 45), .lit (.int .u8 43), .lit (.int .u8 51), .lit (.int .u8 22), .lit (.int .u8 53), .lit (.int .u8 39), .lit (.int .u8 33), .lit (.int .u8 30), .lit (.int .u8 24), .lit (.int .u8 18), .lit (.int .u8 12), .lit (.int .u8 5), .lit (.int .u8 63), .lit (.int .u8 55), .lit (.int .u8 48), .lit (.int .u8 27), .lit (.int .u8 60), .lit (.int .u8 41), .lit (.int .u8 37), .lit (.int .u8 16), .lit (.int .u8 46), .lit (.int .u8 35), .lit (.int .u8 44), .lit (.int .u8 21), .lit (.int .u8 52), .lit (.int .u8 32), .lit (.int .u8 23), .lit (.int .u8 11), .lit (.int .u8 54), .lit (.int .u8 26), .lit (.int .u8 40), .lit (.int .u8 15), .lit (.int .u8 34), .lit (.int .u8 20), .lit (.int .u8 31), .lit (.int .u8 10), .lit (.int .u8 25), .lit (.int .u8 14), .lit (.int .u8 19), .lit (.int .u8 9), .lit (.int .u8 13), .lit (.int .u8 8), .lit (.int .u8 7), .lit (.int .u8 6)]
def laid_consistory_mod_tried {H : Type} : DataW H := .agg [.lit (.int .u64 2), .lit (.int .u64 3), .lit (.int .u64 5), .lit (.int .u64 7), .lit (.int .u64 11), .lit (.int .u64 13), .lit (.int .u64 17), .lit (.int .u64 19), .lit (.int .u64 23), .lit (.int .u64 29), .lit (.int .u64 31), .lit (.int .u64 37)]

/-- 'consistorylaw19.AvssOne': WHATEVER THE INPUT: true; the input reads as it did. -/
def avssOneSpec : ChangeSpec := { name := "avssOne", fn := fun _ => fun
  | [d1, d2, d3, d4, d5] => { results := [.lit (.bool true)], args := [d1, d2, d3, d4, d5] }
  | _ => none }
def avssOneRow : OpenClaim := { program := "ytkdfjkdphdfclaagreatdoor", sum := "5a3f3a8ae52ebb96ebd7e1e6726fe0a52a752efdf4585e3ef27bec00b5a13d68", func := "consistory/consistorylaw19.AvssOne", spec := "avssOne", unfollowed := true, recurses := true, named := ["consistory/mod.tried", "math/bits.deBruijn64tab", "math/bits.divideError", "math/bits.overflowError"], plainKeys := false, apart := false, laid := [("math/bits.deBruijn64tab", laid_math_bits_deBruijn64tab), ("consistory/mod.tried", laid_consistory_mod_tried)] }
def AvssOneSaid : Prop := avssOneRow.holds Tryz.pinned (OpenSpec.ofChange avssOneSpec)

/-- ITS FALSE NEIGHBOUR: 'it returns false'. Refute it at one input. -/
def avssOneWrong : ChangeSpec := { name := "avssOne", fn := fun _ => fun
  | [d1, d2, d3, d4, d5] => { results := [.lit (.bool false)], args := [d1, d2, d3, d4, d5] }
  | _ => none }
def AvssOneWrongFalsely : Prop := avssOneRow.holds Tryz.pinned (OpenSpec.ofChange avssOneWrong)

/-- 'consistorylaw19.AvssAll': WHATEVER THE INPUT: true; the input reads as it did. -/
def avssAllSpec : ChangeSpec := { name := "avssAll", fn := fun _ => fun
  | [d1, d2, d3, d4, d5, d6] => { results := [.lit (.bool true)], args := [d1, d2, d3, d4, d5, d6] }
  | _ => none }
def avssAllRow : OpenClaim := { program := "ytkdfjkdphdfclaagreatdoor", sum := "5a3f3a8ae52ebb96ebd7e1e6726fe0a52a752efdf4585e3ef27bec00b5a13d68", func := "consistory/consistorylaw19.AvssAll", spec := "avssAll", unfollowed := true, recurses := true, named := ["consistory/mod.tried", "math/bits.deBruijn64tab", "math/bits.divideError", "math/bits.overflowError"], plainKeys := false, apart := false, laid := [("math/bits.deBruijn64tab", laid_math_bits_deBruijn64tab), ("consistory/mod.tried", laid_consistory_mod_tried)] }
def AvssAllSaid : Prop := avssAllRow.holds Tryz.pinned (OpenSpec.ofChange avssAllSpec)

/-- ITS FALSE NEIGHBOUR: 'it returns false'. Refute it at one input. -/
def avssAllWrong : ChangeSpec := { name := "avssAll", fn := fun _ => fun
  | [d1, d2, d3, d4, d5, d6] => { results := [.lit (.bool false)], args := [d1, d2, d3, d4, d5, d6] }
  | _ => none }
def AvssAllWrongFalsely : Prop := avssAllRow.holds Tryz.pinned (OpenSpec.ofChange avssAllWrong)

/-- 'consistorylaw19.AvssPlays': WHATEVER THE INPUT: true; the input reads as it did. -/
def avssPlaysSpec : ChangeSpec := { name := "avssPlays", fn := fun _ => fun
  | [d1, d2, d3, d4, d5] => { results := [.lit (.bool true)], args := [d1, d2, d3, d4, d5] }
  | _ => none }
def avssPlaysRow : OpenClaim := { program := "ytkdfjkdphdfclaagreatdoor", sum := "5a3f3a8ae52ebb96ebd7e1e6726fe0a52a752efdf4585e3ef27bec00b5a13d68", func := "consistory/consistorylaw19.AvssPlays", spec := "avssPlays", unfollowed := true, recurses := true, named := ["consistory/mod.tried", "math/bits.deBruijn64tab", "math/bits.divideError", "math/bits.overflowError"], plainKeys := false, apart := false, laid := [("math/bits.deBruijn64tab", laid_math_bits_deBruijn64tab), ("consistory/mod.tried", laid_consistory_mod_tried)] }
def AvssPlaysSaid : Prop := avssPlaysRow.holds Tryz.pinned (OpenSpec.ofChange avssPlaysSpec)

/-- ITS FALSE NEIGHBOUR: 'it returns false'. Refute it at one input. -/
def avssPlaysWrong : ChangeSpec := { name := "avssPlays", fn := fun _ => fun
  | [d1, d2, d3, d4, d5] => { results := [.lit (.bool false)], args := [d1, d2, d3, d4, d5] }
  | _ => none }
def AvssPlaysWrongFalsely : Prop := avssPlaysRow.holds Tryz.pinned (OpenSpec.ofChange avssPlaysWrong)

/-- 'consistorylaw19.AvssNames': WHATEVER THE INPUT: true; the input reads as it did. -/
def avssNamesSpec : ChangeSpec := { name := "avssNames", fn := fun _ => fun
  | [] => { results := [.lit (.bool true)], args := [] }
  | _ => none }
def avssNamesRow : OpenClaim := { program := "ytkdfjkdphdfclaagreatdoor", sum := "5a3f3a8ae52ebb96ebd7e1e6726fe0a52a752efdf4585e3ef27bec00b5a13d68", func := "consistory/consistorylaw19.AvssNames", spec := "avssNames", unfollowed := true, recurses := true, named := ["math/bits.divideError", "math/bits.overflowError", "consistory/mod.tried", "math/bits.deBruijn64tab"], plainKeys := false, apart := false, laid := [("math/bits.deBruijn64tab", laid_math_bits_deBruijn64tab), ("consistory/mod.tried", laid_consistory_mod_tried)] }
def AvssNamesSaid : Prop := avssNamesRow.holds Tryz.pinned (OpenSpec.ofChange avssNamesSpec)

/-- ITS FALSE NEIGHBOUR: 'it returns false'. Refute it at one input. -/
def avssNamesWrong : ChangeSpec := { name := "avssNames", fn := fun _ => fun
  | [] => { results := [.lit (.bool false)], args := [] }
  | _ => none }
def AvssNamesWrongFalsely : Prop := avssNamesRow.holds Tryz.pinned (OpenSpec.ofChange avssNamesWrong)

/-- 'consistorylaw19.AvssLoads': WHATEVER THE INPUT: true; the input reads as it did. -/
def avssLoadsSpec : ChangeSpec := { name := "avssLoads", fn := fun _ => fun
  | [d1, d2] => { results := [.lit (.bool true)], args := [d1, d2] }
  | _ => none }
def avssLoadsRow : OpenClaim := { program := "ytkdfjkdphdfclaagreatdoor", sum := "5a3f3a8ae52ebb96ebd7e1e6726fe0a52a752efdf4585e3ef27bec00b5a13d68", func := "consistory/consistorylaw19.AvssLoads", spec := "avssLoads", unfollowed := true, recurses := true, named := ["consistory/mod.tried", "math/bits.deBruijn64tab", "math/bits.divideError", "math/bits.overflowError"], plainKeys := false, apart := false, laid := [("math/bits.deBruijn64tab", laid_math_bits_deBruijn64tab), ("consistory/mod.tried", laid_consistory_mod_tried)] }
def AvssLoadsSaid : Prop := avssLoadsRow.holds Tryz.pinned (OpenSpec.ofChange avssLoadsSpec)

/-- ITS FALSE NEIGHBOUR: 'it returns false'. Refute it at one input. -/
def avssLoadsWrong : ChangeSpec := { name := "avssLoads", fn := fun _ => fun
  | [d1, d2] => { results := [.lit (.bool false)], args := [d1, d2] }
  | _ => none }
def AvssLoadsWrongFalsely : Prop := avssLoadsRow.holds Tryz.pinned (OpenSpec.ofChange avssLoadsWrong)

/-- 'consistorylaw19.AvssAnew': WHATEVER THE INPUT: true; the input reads as it did. -/
def avssAnewSpec : ChangeSpec := { name := "avssAnew", fn := fun _ => fun
  | [d1, d2, d3, d4, d5] => { results := [.lit (.bool true)], args := [d1, d2, d3, d4, d5] }
  | _ => none }
def avssAnewRow : OpenClaim := { program := "ytkdfjkdphdfclaagreatdoor", sum := "5a3f3a8ae52ebb96ebd7e1e6726fe0a52a752efdf4585e3ef27bec00b5a13d68", func := "consistory/consistorylaw19.AvssAnew", spec := "avssAnew", unfollowed := true, recurses := true, named := ["consistory/mod.tried", "math/bits.deBruijn64tab", "math/bits.divideError", "math/bits.overflowError"], plainKeys := false, apart := false, laid := [("math/bits.deBruijn64tab", laid_math_bits_deBruijn64tab), ("consistory/mod.tried", laid_consistory_mod_tried)] }
def AvssAnewSaid : Prop := avssAnewRow.holds Tryz.pinned (OpenSpec.ofChange avssAnewSpec)

/-- ITS FALSE NEIGHBOUR: 'it returns false'. Refute it at one input. -/
def avssAnewWrong : ChangeSpec := { name := "avssAnew", fn := fun _ => fun
  | [d1, d2, d3, d4, d5] => { results := [.lit (.bool false)], args := [d1, d2, d3, d4, d5] }
  | _ => none }
def AvssAnewWrongFalsely : Prop := avssAnewRow.holds Tryz.pinned (OpenSpec.ofChange avssAnewWrong)

/- THE SECOND FORM. 'bulk': how many values and letters a reading holds, each counted each time it is reached (what is shared counts as often as it is met; a slice's spare places count too). A statement '..UptoSaid' is the law's where the arguments, and the package variables that the reading takes, are together of bulk at most 1048576: NARROWER than '..Said'. Prove '..Said' where nothing that the law and all that it calls make is longer than what came in: it says more and counts as full. Else prove '..UptoSaid'. A law counts once. -/
mutual
def uptoBulk {H : Type} : DataW H → Nat
  | .lit (.string bytes) => bytes.length + 1
  | .lit _ => 1
  | .nil => 1
  | .ptr d => uptoBulk d + 1
  | .slice elems spare => uptoBulkAll elems + uptoBulkAll spare + 1
  | .agg parts => uptoBulkAll parts + 1
  | .iface _ d => uptoBulk d + 1
  | .map entries => uptoBulkEntries entries + 1
  | .held _ => 1
def uptoBulkAll {H : Type} : List (DataW H) → Nat
  | [] => 0
  | d :: r => uptoBulk d + uptoBulkAll r
def uptoBulkEntries {H : Type} : List (Lit × DataW H) → Nat
  | [] => 0
  | x :: r => uptoBulkEntry x + uptoBulkEntries r
def uptoBulkEntry {H : Type} : Lit × DataW H → Nat
  | (.string bytes, d) => bytes.length + uptoBulk d + 1
  | (_, d) => uptoBulk d + 1
 end
def uptoSmall : (H : Type) → List (DataW H) → Bool := fun _ ds => decide (uptoBulkAll ds ≤ 1048576)
def OpenSpec.upto (s : _root_.Go.ChangeSpec) : _root_.Go.OpenSpec := { _root_.Go.OpenSpec.ofChange s with cond := some uptoSmall }

/-- 'consistorylaw19.AvssOne', WHERE WHAT IT READS IS OF BULK AT MOST 1048576: true; the input reads as it did. -/
def avssOneUptoRow : OpenClaim := { program := "ytkdfjkdphdfclaagreatdoor", sum := "5a3f3a8ae52ebb96ebd7e1e6726fe0a52a752efdf4585e3ef27bec00b5a13d68", func := "consistory/consistorylaw19.AvssOne", spec := "avssOne", unfollowed := true, recurses := true, named := ["consistory/mod.tried", "math/bits.deBruijn64tab", "math/bits.divideError", "math/bits.overflowError"], plainKeys := false, apart := false, laid := [("math/bits.deBruijn64tab", laid_math_bits_deBruijn64tab), ("consistory/mod.tried", laid_consistory_mod_tried)], narrowed := true }
def AvssOneUptoSaid : Prop := avssOneUptoRow.holds Tryz.pinned (OpenSpec.upto avssOneSpec)

/-- 'consistorylaw19.AvssAll', WHERE WHAT IT READS IS OF BULK AT MOST 1048576: true; the input reads as it did. -/
def avssAllUptoRow : OpenClaim := { program := "ytkdfjkdphdfclaagreatdoor", sum := "5a3f3a8ae52ebb96ebd7e1e6726fe0a52a752efdf4585e3ef27bec00b5a13d68", func := "consistory/consistorylaw19.AvssAll", spec := "avssAll", unfollowed := true, recurses := true, named := ["consistory/mod.tried", "math/bits.deBruijn64tab", "math/bits.divideError", "math/bits.overflowError"], plainKeys := false, apart := false, laid := [("math/bits.deBruijn64tab", laid_math_bits_deBruijn64tab), ("consistory/mod.tried", laid_consistory_mod_tried)], narrowed := true }
def AvssAllUptoSaid : Prop := avssAllUptoRow.holds Tryz.pinned (OpenSpec.upto avssAllSpec)

/-- 'consistorylaw19.AvssPlays', WHERE WHAT IT READS IS OF BULK AT MOST 1048576: true; the input reads as it did. -/
def avssPlaysUptoRow : OpenClaim := { program := "ytkdfjkdphdfclaagreatdoor", sum := "5a3f3a8ae52ebb96ebd7e1e6726fe0a52a752efdf4585e3ef27bec00b5a13d68", func := "consistory/consistorylaw19.AvssPlays", spec := "avssPlays", unfollowed := true, recurses := true, named := ["consistory/mod.tried", "math/bits.deBruijn64tab", "math/bits.divideError", "math/bits.overflowError"], plainKeys := false, apart := false, laid := [("math/bits.deBruijn64tab", laid_math_bits_deBruijn64tab), ("consistory/mod.tried", laid_consistory_mod_tried)], narrowed := true }
def AvssPlaysUptoSaid : Prop := avssPlaysUptoRow.holds Tryz.pinned (OpenSpec.upto avssPlaysSpec)

/-- 'consistorylaw19.AvssNames', WHERE WHAT IT READS IS OF BULK AT MOST 1048576: true; the input reads as it did. -/
def avssNamesUptoRow : OpenClaim := { program := "ytkdfjkdphdfclaagreatdoor", sum := "5a3f3a8ae52ebb96ebd7e1e6726fe0a52a752efdf4585e3ef27bec00b5a13d68", func := "consistory/consistorylaw19.AvssNames", spec := "avssNames", unfollowed := true, recurses := true, named := ["math/bits.divideError", "math/bits.overflowError", "consistory/mod.tried", "math/bits.deBruijn64tab"], plainKeys := false, apart := false, laid := [("math/bits.deBruijn64tab", laid_math_bits_deBruijn64tab), ("consistory/mod.tried", laid_consistory_mod_tried)], narrowed := true }
def AvssNamesUptoSaid : Prop := avssNamesUptoRow.holds Tryz.pinned (OpenSpec.upto avssNamesSpec)

/-- 'consistorylaw19.AvssLoads', WHERE WHAT IT READS IS OF BULK AT MOST 1048576: true; the input reads as it did. -/
def avssLoadsUptoRow : OpenClaim := { program := "ytkdfjkdphdfclaagreatdoor", sum := "5a3f3a8ae52ebb96ebd7e1e6726fe0a52a752efdf4585e3ef27bec00b5a13d68", func := "consistory/consistorylaw19.AvssLoads", spec := "avssLoads", unfollowed := true, recurses := true, named := ["consistory/mod.tried", "math/bits.deBruijn64tab", "math/bits.divideError", "math/bits.overflowError"], plainKeys := false, apart := false, laid := [("math/bits.deBruijn64tab", laid_math_bits_deBruijn64tab), ("consistory/mod.tried", laid_consistory_mod_tried)], narrowed := true }
def AvssLoadsUptoSaid : Prop := avssLoadsUptoRow.holds Tryz.pinned (OpenSpec.upto avssLoadsSpec)

/-- 'consistorylaw19.AvssAnew', WHERE WHAT IT READS IS OF BULK AT MOST 1048576: true; the input reads as it did. -/
def avssAnewUptoRow : OpenClaim := { program := "ytkdfjkdphdfclaagreatdoor", sum := "5a3f3a8ae52ebb96ebd7e1e6726fe0a52a752efdf4585e3ef27bec00b5a13d68", func := "consistory/consistorylaw19.AvssAnew", spec := "avssAnew", unfollowed := true, recurses := true, named := ["consistory/mod.tried", "math/bits.deBruijn64tab", "math/bits.divideError", "math/bits.overflowError"], plainKeys := false, apart := false, laid := [("math/bits.deBruijn64tab", laid_math_bits_deBruijn64tab), ("consistory/mod.tried", laid_consistory_mod_tried)], narrowed := true }
def AvssAnewUptoSaid : Prop := avssAnewUptoRow.holds Tryz.pinned (OpenSpec.upto avssAnewSpec)

end Rows
end Go.Proofs.YtkdfjkdphdfclaaGreatDoor
