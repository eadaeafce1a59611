/- What slices hold. -/
import Derived.Test.YtmbbahlenanpfaaAcc
namespace Go.Proofs.Ytmbbahlenanpfaa
open Go.RowKit

theorem info_u64 : (Try.prog.info? 23).map (fun i => (i.zero, i.size, i.bytes)) = some (some (.int .u64 0), 1, 8) := by kernel_rfl
theorem info_nums : (Try.prog.info? 27).map (fun i => (i.zero, i.size, i.bytes)) = some (some (.slice none 0 0), 1, 24) := by kernel_rfl
theorem info_rows : (Try.prog.info? 28).map (fun i => (i.zero, i.size, i.bytes)) = some (some (.slice none 0 0), 1, 24) := by kernel_rfl
theorem info_pair : (Try.prog.info? 41).map (fun i => (i.zero, i.size, i.bytes)) = some (some (.agg #[.int .u64 0, .int .u64 0]), 2, 16) := by kernel_rfl
theorem info_pairs : (Try.prog.info? 42).map (fun i => (i.zero, i.size, i.bytes)) = some (some (.slice none 0 0), 1, 24) := by kernel_rfl
theorem el_u64 : ElemOk Try.prog 27 23 1 8 := ElemOk.mk' (by decide) Try.underlying27 info_u64 rfl
theorem el_nums : ElemOk Try.prog 28 27 1 24 := ElemOk.mk' (by decide) Try.underlying28 info_nums rfl
theorem el_rows : ElemOk Try.prog 29 28 1 24 := ElemOk.mk' (by decide) Try.underlying29 info_rows rfl
theorem el_pair : ElemOk Try.prog 42 41 2 16 := ElemOk.mk' (by decide) Try.underlying42 info_pair rfl
end Go.Proofs.Ytmbbahlenanpfaa
