/- What slices hold. -/
import Derived.Test.YtmbbahlenanpfaaDoorAcc
namespace Go.Proofs.YtmbbahlenanpfaaDoor
open Go.RowKit

theorem info_u64 : (Tryd.prog.info? 22).map (fun i => (i.zero, i.size, i.bytes)) = some (some (.int .u64 0), 1, 8) := by kernel_rfl
theorem info_nums : (Tryd.prog.info? 25).map (fun i => (i.zero, i.size, i.bytes)) = some (some (.slice none 0 0), 1, 24) := by kernel_rfl
theorem info_rows : (Tryd.prog.info? 28).map (fun i => (i.zero, i.size, i.bytes)) = some (some (.slice none 0 0), 1, 24) := by kernel_rfl
theorem info_pair : (Tryd.prog.info? 37).map (fun i => (i.zero, i.size, i.bytes)) = some (some (.agg #[.int .u64 0, .int .u64 0]), 2, 16) := by kernel_rfl
theorem info_pairs : (Tryd.prog.info? 31).map (fun i => (i.zero, i.size, i.bytes)) = some (some (.slice none 0 0), 1, 24) := by kernel_rfl
theorem el_u64 : ElemOk Tryd.prog 25 22 1 8 := ElemOk.mk' (by decide) Tryd.underlying25 info_u64 rfl
theorem el_nums : ElemOk Tryd.prog 28 25 1 24 := ElemOk.mk' (by decide) Tryd.underlying28 info_nums rfl
theorem el_rows : ElemOk Tryd.prog 39 28 1 24 := ElemOk.mk' (by decide) Tryd.underlying39 info_rows rfl
theorem el_pair : ElemOk Tryd.prog 31 37 2 16 := ElemOk.mk' (by decide) Tryd.underlying31 info_pair rfl
end Go.Proofs.YtmbbahlenanpfaaDoor
