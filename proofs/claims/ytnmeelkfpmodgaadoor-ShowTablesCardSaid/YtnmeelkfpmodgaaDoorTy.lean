/- Facts on types: how many cells, the zero value. -/
import Derived.Test.YtnmeelkfpmodgaaDoorInt
namespace Go.Proofs.YtnmeelkfpmodgaaDoor
open Go.RowKit
theorem sz_Sstring : (Tryd.prog.info? 39).map (·.size) = some 1 := by kernel_rfl
theorem sz_Suint8 : (Tryd.prog.info? 28).map (·.size) = some 1 := by kernel_rfl
theorem sz_api_Extent : (Tryd.prog.info? 46).map (·.size) = some 2 := by kernel_rfl
theorem zi_api_Extent : (Tryd.prog.info? 46).map (fun i => (i.zero, i.size)) = some (some (.agg #[.int .i64 0, .int .i64 0]), 2) := by kernel_rfl
theorem ag_api_Extent : Agg Tryd.prog 46 2 := ⟨_, Tryd.underlying46, rfl, sz_api_Extent⟩
theorem sz_int : (Tryd.prog.info? 3).map (·.size) = some 1 := by kernel_rfl
theorem zi_int : (Tryd.prog.info? 3).map (fun i => (i.zero, i.size)) = some (some (.int .i64 0), 1) := by kernel_rfl
theorem sz_string : (Tryd.prog.info? 9).map (·.size) = some 1 := by kernel_rfl
theorem zi_string : (Tryd.prog.info? 9).map (fun i => (i.zero, i.size)) = some (some (.string ByteArray.empty), 1) := by kernel_rfl
theorem zb_string : (Tryd.prog.info? 9).map (fun i => (i.zero, i.size, i.bytes)) = some (some (.string ByteArray.empty), 1, 16) := by kernel_rfl
theorem zi_strings_Builder : (Tryd.prog.info? 54).map (fun i => (i.zero, i.size)) = some (some (.agg #[.pointer none, .slice none 0 0]), 2) := by kernel_rfl
theorem zi_uint8 : (Tryd.prog.info? 5).map (fun i => (i.zero, i.size)) = some (some (.int .u8 0), 1) := by kernel_rfl
theorem zb_uint8 : (Tryd.prog.info? 5).map (fun i => (i.zero, i.size, i.bytes)) = some (some (.int .u8 0), 1, 1) := by kernel_rfl
end Go.Proofs.YtnmeelkfpmodgaaDoor
