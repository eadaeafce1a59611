/-
  NARROWER THAN 'FOR EVERY INPUT', by the rows' own cells (each row's printed sentence says how): GroupMay: laid · GroupNames: laid · GroupClosed: laid · GroupPowers: laid · GroupSums: laid · GroupAt: laid · GroupBinds: laid.
  DERIVED. THE GIVEN ROWS OF THIS SEAT. 7 by the template 'for every input the law returns true; each argument reads behind the call as it read before'; 0 by the template 'total and deterministic' (their statements: YtnjbigbiclfcoaaDoorTotals.lean).
  GIVEN WITH THE SEED: the statements are not yours to turn. If you find one false, say at which input.
  Laid BY PROGRAM, IN A SANDBOX (cutbox-rows.mjs): the forced cells as the released guide's own fill.sh prints them over the translation 0b2de029d1e19f76… (all of the seat's roots in one cut). By AI agents, Wed Nov 11 2026. No macro, syntax, notation, axiom, sorry.
-/
import Derived.Test.YtnjbigbiclfcoaaDoorChecked
import GoSem.Claim
import GoSem.ClaimJoined
import GoSem.ClaimMapViews
import Derived.JoinedTies
import Derived.KernelRfl
namespace Go.Proofs.YtnjbigbiclfcoaaDoor
/- THE CELL 'sum', in the pinned program and in every row, IS THE sha256 OF THE DUMP (.gsa) THAT YtnjbigbiclfcoaaDoorProg.lean LOADS. Nothing in Lean hashes anything: it is a label: what it is worth is what the hold of that sum in a sandbox is worth. -/
noncomputable def Tryd.pinned : Pinned := { name := "ytnjbigbiclfcoaadoor", sum := "0b2de029d1e19f76a26d59f2fa31dc925d5c41cfa3cbcd94d6526a438d912276", checked := Tryd.checked }
namespace Rows
def none {H : Type} : Left H := { results := [], args := [] }

/- WHAT THE LISTED PACKAGE-LEVEL VARIABLES READ AS WHEN THE CALL BEGINS. Each datum BY PROGRAM (the guide's laid-datum.mjs) off the statement by which the dump's own 'gosem.cut.vars' lays the variable. In a bare row this is a premise. The card (YtnjbigbiclfcoaaDoorCards.lean) ties it to the program's text. -/
def laid_math_bits_deBruijn64tab {H : Type} : DataW H := .agg [.lit (.int .u8 0), .lit (.int .u8 1), .lit (.int .u8 56), .lit (.int .u8 2), .lit (.int .u8 57), .lit (.int .u8 49), .lit (.int .u8 28), .lit (.int .u8 3), .lit (.int .u8 61), .lit (.int .u8 58), .lit (.int .u8 42), .lit (.int .u8 50), .lit (.int .u8 38), .lit (.int .u8 29), .lit (.int .u8 17), .lit (.int .u8 4), .lit (.int .u8 62), .lit (.int .u8 47), .lit (.int .u8 59), .lit (.int .u8 36), .lit (.int .u8 45), .lit (.int .u8 43), .lit (.int .u8 51), .lit (.int .u8 22), .lit (.int .u8 53), .lit (.int .u8 39), .lit (.int .u8 33), .lit (.int .u8 30), .lit (.int .u8 24), .lit (.int .u8 18), .lit (.int .u8 12), .lit (.int .u8 5), .lit (.int .u8 63), .lit (.int .u8 55), .lit (.int .u8 48), .lit (.int .u8 27), .lit (.int .u8 60), .lit (.int .u8 41), .lit (.int .u8 37), .lit (.int .u8 16), .lit (.int .u8 46), .lit (.int .u8 35), .lit (.int .u8 44), .lit (.int .u8 21), .lit (.int .u8 52), .lit (.int .u8 32), .lit (.int .u8 23), .lit (.int .u8 11), .lit (.int .u8 54), .lit (.int .u8 26), .lit (.int .u8 40), .lit (.int .u8 15), .lit (.int .u8 34), .lit (.int .u8 20), .lit (.int .u8 31), .lit (.int .u8 10), .lit (.int .u8 25), .lit (.int .u8 14), .lit (.int .u8 19), .lit (.int .u8 9), .lit (.int .u8 13), .lit (.int .u8 8), .lit (.int .u8 7), .lit (.int .u8 6)]
def laid_consistory_mod_tried {H : Type} : DataW H := .agg [.lit (.int .u64 2), .lit (.int .u64 3), .lit (.int .u64 5), .lit (.int .u64 7), .lit (.int .u64 11), .lit (.int .u64 13), .lit (.int .u64 17), .lit (.int .u64 19), .lit (.int .u64 23), .lit (.int .u64 29), .lit (.int .u64 31), .lit (.int .u64 37)]

/-- 'consistorylaw02.GroupMay': WHATEVER THE INPUT: true; the input reads as it did. -/
def groupMaySpec : ChangeSpec := { name := "groupMay", fn := fun _ => fun
  | [d] => { results := [.lit (.bool true)], args := [d] }
  | _ => none }
def groupMayRow : OpenClaim := { program := "ytnjbigbiclfcoaadoor", sum := "0b2de029d1e19f76a26d59f2fa31dc925d5c41cfa3cbcd94d6526a438d912276", func := "consistory/consistorylaw02.GroupMay", spec := "groupMay", unfollowed := true, recurses := true, named := ["consistory/mod.tried", "math/bits.deBruijn64tab", "math/bits.divideError", "math/bits.overflowError"], apart := false, laid := [("math/bits.deBruijn64tab", laid_math_bits_deBruijn64tab), ("consistory/mod.tried", laid_consistory_mod_tried)] }
def GroupMaySaid : Prop := groupMayRow.holds Tryd.pinned (OpenSpec.ofChange groupMaySpec)

/-- ITS FALSE NEIGHBOUR: 'it returns false'. Refute it at one input. -/
def groupMayWrong : ChangeSpec := { name := "groupMay", fn := fun _ => fun
  | [d] => { results := [.lit (.bool false)], args := [d] }
  | _ => none }
def GroupMayWrongFalsely : Prop := groupMayRow.holds Tryd.pinned (OpenSpec.ofChange groupMayWrong)

/-- 'consistorylaw02.GroupNames': WHATEVER THE INPUT: true; the input reads as it did. -/
def groupNamesSpec : ChangeSpec := { name := "groupNames", fn := fun _ => fun
  | [] => { results := [.lit (.bool true)], args := [] }
  | _ => none }
def groupNamesRow : OpenClaim := { program := "ytnjbigbiclfcoaadoor", sum := "0b2de029d1e19f76a26d59f2fa31dc925d5c41cfa3cbcd94d6526a438d912276", func := "consistory/consistorylaw02.GroupNames", spec := "groupNames", unfollowed := true, recurses := true, named := ["consistory/mod.tried", "math/bits.deBruijn64tab", "math/bits.divideError", "math/bits.overflowError"], apart := false, laid := [("math/bits.deBruijn64tab", laid_math_bits_deBruijn64tab), ("consistory/mod.tried", laid_consistory_mod_tried)] }
def GroupNamesSaid : Prop := groupNamesRow.holds Tryd.pinned (OpenSpec.ofChange groupNamesSpec)

/-- ITS FALSE NEIGHBOUR: 'it returns false'. Refute it at one input. -/
def groupNamesWrong : ChangeSpec := { name := "groupNames", fn := fun _ => fun
  | [] => { results := [.lit (.bool false)], args := [] }
  | _ => none }
def GroupNamesWrongFalsely : Prop := groupNamesRow.holds Tryd.pinned (OpenSpec.ofChange groupNamesWrong)

/-- 'consistorylaw02.GroupClosed': WHATEVER THE INPUT: true; the input reads as it did. -/
def groupClosedSpec : ChangeSpec := { name := "groupClosed", fn := fun _ => fun
  | [d1, d2, d3, d4] => { results := [.lit (.bool true)], args := [d1, d2, d3, d4] }
  | _ => none }
def groupClosedRow : OpenClaim := { program := "ytnjbigbiclfcoaadoor", sum := "0b2de029d1e19f76a26d59f2fa31dc925d5c41cfa3cbcd94d6526a438d912276", func := "consistory/consistorylaw02.GroupClosed", spec := "groupClosed", unfollowed := true, recurses := true, named := ["consistory/mod.tried", "math/bits.deBruijn64tab", "math/bits.divideError", "math/bits.overflowError"], apart := false, laid := [("math/bits.deBruijn64tab", laid_math_bits_deBruijn64tab), ("consistory/mod.tried", laid_consistory_mod_tried)] }
def GroupClosedSaid : Prop := groupClosedRow.holds Tryd.pinned (OpenSpec.ofChange groupClosedSpec)

/-- ITS FALSE NEIGHBOUR: 'it returns false'. Refute it at one input. -/
def groupClosedWrong : ChangeSpec := { name := "groupClosed", fn := fun _ => fun
  | [d1, d2, d3, d4] => { results := [.lit (.bool false)], args := [d1, d2, d3, d4] }
  | _ => none }
def GroupClosedWrongFalsely : Prop := groupClosedRow.holds Tryd.pinned (OpenSpec.ofChange groupClosedWrong)

/-- 'consistorylaw02.GroupPowers': WHATEVER THE INPUT: true; the input reads as it did. -/
def groupPowersSpec : ChangeSpec := { name := "groupPowers", fn := fun _ => fun
  | [d1, d2, d3, d4] => { results := [.lit (.bool true)], args := [d1, d2, d3, d4] }
  | _ => none }
def groupPowersRow : OpenClaim := { program := "ytnjbigbiclfcoaadoor", sum := "0b2de029d1e19f76a26d59f2fa31dc925d5c41cfa3cbcd94d6526a438d912276", func := "consistory/consistorylaw02.GroupPowers", spec := "groupPowers", unfollowed := true, recurses := true, named := ["consistory/mod.tried", "math/bits.deBruijn64tab", "math/bits.divideError", "math/bits.overflowError"], apart := false, laid := [("math/bits.deBruijn64tab", laid_math_bits_deBruijn64tab), ("consistory/mod.tried", laid_consistory_mod_tried)] }
def GroupPowersSaid : Prop := groupPowersRow.holds Tryd.pinned (OpenSpec.ofChange groupPowersSpec)

/-- ITS FALSE NEIGHBOUR: 'it returns false'. Refute it at one input. -/
def groupPowersWrong : ChangeSpec := { name := "groupPowers", fn := fun _ => fun
  | [d1, d2, d3, d4] => { results := [.lit (.bool false)], args := [d1, d2, d3, d4] }
  | _ => none }
def GroupPowersWrongFalsely : Prop := groupPowersRow.holds Tryd.pinned (OpenSpec.ofChange groupPowersWrong)

/-- 'consistorylaw02.GroupSums': WHATEVER THE INPUT: true; the input reads as it did. -/
def groupSumsSpec : ChangeSpec := { name := "groupSums", fn := fun _ => fun
  | [d1, d2, d3, d4] => { results := [.lit (.bool true)], args := [d1, d2, d3, d4] }
  | _ => none }
def groupSumsRow : OpenClaim := { program := "ytnjbigbiclfcoaadoor", sum := "0b2de029d1e19f76a26d59f2fa31dc925d5c41cfa3cbcd94d6526a438d912276", func := "consistory/consistorylaw02.GroupSums", spec := "groupSums", unfollowed := true, recurses := true, named := ["consistory/mod.tried", "math/bits.deBruijn64tab", "math/bits.divideError", "math/bits.overflowError"], apart := false, laid := [("math/bits.deBruijn64tab", laid_math_bits_deBruijn64tab), ("consistory/mod.tried", laid_consistory_mod_tried)] }
def GroupSumsSaid : Prop := groupSumsRow.holds Tryd.pinned (OpenSpec.ofChange groupSumsSpec)

/-- ITS FALSE NEIGHBOUR: 'it returns false'. Refute it at one input. -/
def groupSumsWrong : ChangeSpec := { name := "groupSums", fn := fun _ => fun
  | [d1, d2, d3, d4] => { results := [.lit (.bool false)], args := [d1, d2, d3, d4] }
  | _ => none }
def GroupSumsWrongFalsely : Prop := groupSumsRow.holds Tryd.pinned (OpenSpec.ofChange groupSumsWrong)

/-- 'consistorylaw02.GroupAt': WHATEVER THE INPUT: true; the input reads as it did. -/
def groupAtSpec : ChangeSpec := { name := "groupAt", fn := fun _ => fun
  | [d1, d2, d3] => { results := [.lit (.bool true)], args := [d1, d2, d3] }
  | _ => none }
def groupAtRow : OpenClaim := { program := "ytnjbigbiclfcoaadoor", sum := "0b2de029d1e19f76a26d59f2fa31dc925d5c41cfa3cbcd94d6526a438d912276", func := "consistory/consistorylaw02.GroupAt", spec := "groupAt", unfollowed := true, recurses := true, named := ["consistory/mod.tried", "math/bits.deBruijn64tab", "math/bits.divideError", "math/bits.overflowError"], apart := false, laid := [("math/bits.deBruijn64tab", laid_math_bits_deBruijn64tab), ("consistory/mod.tried", laid_consistory_mod_tried)] }
def GroupAtSaid : Prop := groupAtRow.holds Tryd.pinned (OpenSpec.ofChange groupAtSpec)

/-- ITS FALSE NEIGHBOUR: 'it returns false'. Refute it at one input. -/
def groupAtWrong : ChangeSpec := { name := "groupAt", fn := fun _ => fun
  | [d1, d2, d3] => { results := [.lit (.bool false)], args := [d1, d2, d3] }
  | _ => none }
def GroupAtWrongFalsely : Prop := groupAtRow.holds Tryd.pinned (OpenSpec.ofChange groupAtWrong)

/-- 'consistorylaw02.GroupBinds': WHATEVER THE INPUT: true; the input reads as it did. -/
def groupBindsSpec : ChangeSpec := { name := "groupBinds", fn := fun _ => fun
  | [d1, d2, d3, d4] => { results := [.lit (.bool true)], args := [d1, d2, d3, d4] }
  | _ => none }
def groupBindsRow : OpenClaim := { program := "ytnjbigbiclfcoaadoor", sum := "0b2de029d1e19f76a26d59f2fa31dc925d5c41cfa3cbcd94d6526a438d912276", func := "consistory/consistorylaw02.GroupBinds", spec := "groupBinds", unfollowed := true, recurses := true, named := ["consistory/mod.tried", "math/bits.deBruijn64tab", "math/bits.divideError", "math/bits.overflowError"], apart := false, laid := [("math/bits.deBruijn64tab", laid_math_bits_deBruijn64tab), ("consistory/mod.tried", laid_consistory_mod_tried)] }
def GroupBindsSaid : Prop := groupBindsRow.holds Tryd.pinned (OpenSpec.ofChange groupBindsSpec)

/-- ITS FALSE NEIGHBOUR: 'it returns false'. Refute it at one input. -/
def groupBindsWrong : ChangeSpec := { name := "groupBinds", fn := fun _ => fun
  | [d1, d2, d3, d4] => { results := [.lit (.bool false)], args := [d1, d2, d3, d4] }
  | _ => none }
def GroupBindsWrongFalsely : Prop := groupBindsRow.holds Tryd.pinned (OpenSpec.ofChange groupBindsWrong)

/- THE SECOND FORM. 'bulk': how many values and letters a reading holds, each counted each time it is reached (what is shared counts as often as it is met; a slice's spare places count too). A statement '..UptoSaid' is the law's where the arguments, and the package variables that the reading takes, are together of bulk at most 1048576: NARROWER than '..Said'. Prove '..Said' where nothing that the law and all that it calls make is longer than what came in: it says more and counts as full. Else prove '..UptoSaid'. A law counts once. -/
mutual
def uptoBulk {H : Type} : DataW H → Nat
  | .lit (.string bytes) => bytes.length + 1
  | .lit _ => 1
  | .nil => 1
  | .ptr d => uptoBulk d + 1
  | .slice elems spare => uptoBulkAll elems + uptoBulkAll spare + 1
  | .agg parts => uptoBulkAll parts + 1
  | .iface _ d => uptoBulk d + 1
  | .map entries => uptoBulkEntries entries + 1
  | .held _ => 1
def uptoBulkAll {H : Type} : List (DataW H) → Nat
  | [] => 0
  | d :: r => uptoBulk d + uptoBulkAll r
def uptoBulkEntries {H : Type} : List (Lit × DataW H) → Nat
  | [] => 0
  | x :: r => uptoBulkEntry x + uptoBulkEntries r
def uptoBulkEntry {H : Type} : Lit × DataW H → Nat
  | (.string bytes, d) => bytes.length + uptoBulk d + 1
  | (_, d) => uptoBulk d + 1
 end
def uptoSmall : (H : Type) → List (DataW H) → Bool := fun _ ds => decide (uptoBulkAll ds ≤ 1048576)
def OpenSpec.upto (s : _root_.Go.ChangeSpec) : _root_.Go.OpenSpec := { _root_.Go.OpenSpec.ofChange s with cond := some uptoSmall }

/-- 'consistorylaw02.GroupMay', WHERE WHAT IT READS IS OF BULK AT MOST 1048576: true; the input reads as it did. -/
def groupMayUptoRow : OpenClaim := { program := "ytnjbigbiclfcoaadoor", sum := "0b2de029d1e19f76a26d59f2fa31dc925d5c41cfa3cbcd94d6526a438d912276", func := "consistory/consistorylaw02.GroupMay", spec := "groupMay", unfollowed := true, recurses := true, named := ["consistory/mod.tried", "math/bits.deBruijn64tab", "math/bits.divideError", "math/bits.overflowError"], apart := false, laid := [("math/bits.deBruijn64tab", laid_math_bits_deBruijn64tab), ("consistory/mod.tried", laid_consistory_mod_tried)], narrowed := true }
def GroupMayUptoSaid : Prop := groupMayUptoRow.holds Tryd.pinned (OpenSpec.upto groupMaySpec)

/-- 'consistorylaw02.GroupNames', WHERE WHAT IT READS IS OF BULK AT MOST 1048576: true; the input reads as it did. -/
def groupNamesUptoRow : OpenClaim := { program := "ytnjbigbiclfcoaadoor", sum := "0b2de029d1e19f76a26d59f2fa31dc925d5c41cfa3cbcd94d6526a438d912276", func := "consistory/consistorylaw02.GroupNames", spec := "groupNames", unfollowed := true, recurses := true, named := ["consistory/mod.tried", "math/bits.deBruijn64tab", "math/bits.divideError", "math/bits.overflowError"], apart := false, laid := [("math/bits.deBruijn64tab", laid_math_bits_deBruijn64tab), ("consistory/mod.tried", laid_consistory_mod_tried)], narrowed := true }
def GroupNamesUptoSaid : Prop := groupNamesUptoRow.holds Tryd.pinned (OpenSpec.upto groupNamesSpec)

/-- 'consistorylaw02.GroupClosed', WHERE WHAT IT READS IS OF BULK AT MOST 1048576: true; the input reads as it did. -/
def groupClosedUptoRow : OpenClaim := { program := "ytnjbigbiclfcoaadoor", sum := "0b2de029d1e19f76a26d59f2fa31dc925d5c41cfa3cbcd94d6526a438d912276", func := "consistory/consistorylaw02.GroupClosed", spec := "groupClosed", unfollowed := true, recurses := true, named := ["consistory/mod.tried", "math/bits.deBruijn64tab", "math/bits.divideError", "math/bits.overflowError"], apart := false, laid := [("math/bits.deBruijn64tab", laid_math_bits_deBruijn64tab), ("consistory/mod.tried", laid_consistory_mod_tried)], narrowed := true }
def GroupClosedUptoSaid : Prop := groupClosedUptoRow.holds Tryd.pinned (OpenSpec.upto groupClosedSpec)

/-- 'consistorylaw02.GroupPowers', WHERE WHAT IT READS IS OF BULK AT MOST 1048576: true; the input reads as it did. -/
def groupPowersUptoRow : OpenClaim := { program := "ytnjbigbiclfcoaadoor", sum := "0b2de029d1e19f76a26d59f2fa31dc925d5c41cfa3cbcd94d6526a438d912276", func := "consistory/consistorylaw02.GroupPowers", spec := "groupPowers", unfollowed := true, recurses := true, named := ["consistory/mod.tried", "math/bits.deBruijn64tab", "math/bits.divideError", "math/bits.overflowError"], apart := false, laid := [("math/bits.deBruijn64tab", laid_math_bits_deBruijn64tab), ("consistory/mod.tried", laid_consistory_mod_tried)], narrowed := true }
def GroupPowersUptoSaid : Prop := groupPowersUptoRow.holds Tryd.pinned (OpenSpec.upto groupPowersSpec)

/-- 'consistorylaw02.GroupSums', WHERE WHAT IT READS IS OF BULK AT MOST 1048576: true; the input reads as it did. -/
def groupSumsUptoRow : OpenClaim := { program := "ytnjbigbiclfcoaadoor", sum := "0b2de029d1e19f76a26d59f2fa31dc925d5c41cfa3cbcd94d6526a438d912276", func := "consistory/consistorylaw02.GroupSums", spec := "groupSums", unfollowed := true, recurses := true, named := ["consistory/mod.tried", "math/bits.deBruijn64tab", "math/bits.divideError", "math/bits.overflowError"], apart := false, laid := [("math/bits.deBruijn64tab", laid_math_bits_deBruijn64tab), ("consistory/mod.tried", laid_consistory_mod_tried)], narrowed := true }
def GroupSumsUptoSaid : Prop := groupSumsUptoRow.holds Tryd.pinned (OpenSpec.upto groupSumsSpec)

/-- 'consistorylaw02.GroupAt', WHERE WHAT IT READS IS OF BULK AT MOST 1048576: true; the input reads as it did. -/
def groupAtUptoRow : OpenClaim := { program := "ytnjbigbiclfcoaadoor", sum := "0b2de029d1e19f76a26d59f2fa31dc925d5c41cfa3cbcd94d6526a438d912276", func := "consistory/consistorylaw02.GroupAt", spec := "groupAt", unfollowed := true, recurses := true, named := ["consistory/mod.tried", "math/bits.deBruijn64tab", "math/bits.divideError", "math/bits.overflowError"], apart := false, laid := [("math/bits.deBruijn64tab", laid_math_bits_deBruijn64tab), ("consistory/mod.tried", laid_consistory_mod_tried)], narrowed := true }
def GroupAtUptoSaid : Prop := groupAtUptoRow.holds Tryd.pinned (OpenSpec.upto groupAtSpec)

/-- 'consistorylaw02.GroupBinds', WHERE WHAT IT READS IS OF BULK AT MOST 1048576: true; the input reads as it did. -/
def groupBindsUptoRow : OpenClaim := { program := "ytnjbigbiclfcoaadoor", sum := "0b2de029d1e19f76a26d59f2fa31dc925d5c41cfa3cbcd94d6526a438d912276", func := "consistory/consistorylaw02.GroupBinds", spec := "groupBinds", unfollowed := true, recurses := true, named := ["consistory/mod.tried", "math/bits.deBruijn64tab", "math/bits.divideError", "math/bits.overflowError"], apart := false, laid := [("math/bits.deBruijn64tab", laid_math_bits_deBruijn64tab), ("consistory/mod.tried", laid_consistory_mod_tried)], narrowed := true }
def GroupBindsUptoSaid : Prop := groupBindsUptoRow.holds Tryd.pinned (OpenSpec.upto groupBindsSpec)

end Rows
end Go.Proofs.YtnjbigbiclfcoaaDoor
