/- Facts on types: how many cells, the zero value. -/
import Derived.Test.YtnmeelkfpmodgaaDoorInt
namespace Go.Proofs.YtnmeelkfpmodgaaDoor
open Go.RowKit
theorem sz_A32_uint8 : (Tryd.prog.info? 22).map (·.size) = some 32 := by kernel_rfl
theorem zi_A32_uint8 : (Tryd.prog.info? 22).map (fun i => (i.zero, i.size)) = some (some (.agg (List.replicate 32 (.int .u8 0)).toArray), 32) := by kernel_rfl
theorem ag_A32_uint8 : Agg Tryd.prog 22 32 := ⟨_, Tryd.underlying22, rfl, sz_A32_uint8⟩
theorem zi_A64_uint8 : (Tryd.prog.info? 73).map (fun i => (i.zero, i.size)) = some (some (.agg (List.replicate 64 (.int .u8 0)).toArray), 64) := by kernel_rfl
theorem sz_SA32_uint8 : (Tryd.prog.info? 31).map (·.size) = some 1 := by kernel_rfl
theorem sz_Sapi_Extent : (Tryd.prog.info? 29).map (·.size) = some 1 := by kernel_rfl
theorem sz_Sapi_Space : (Tryd.prog.info? 24).map (·.size) = some 1 := by kernel_rfl
theorem sz_Sapi_Tenant : (Tryd.prog.info? 23).map (·.size) = some 1 := by kernel_rfl
theorem sz_Suint8 : (Tryd.prog.info? 28).map (·.size) = some 1 := by kernel_rfl
theorem sz_api_Extent : (Tryd.prog.info? 46).map (·.size) = some 2 := by kernel_rfl
theorem zi_api_Extent : (Tryd.prog.info? 46).map (fun i => (i.zero, i.size)) = some (some (.agg #[.int .i64 0, .int .i64 0]), 2) := by kernel_rfl
theorem zb_api_Extent : (Tryd.prog.info? 46).map (fun i => (i.zero, i.size, i.bytes)) = some (some (.agg #[.int .i64 0, .int .i64 0]), 2, 16) := by kernel_rfl
theorem ag_api_Extent : Agg Tryd.prog 46 2 := ⟨_, Tryd.underlying46, rfl, sz_api_Extent⟩
theorem sz_api_Space : (Tryd.prog.info? 33).map (·.size) = some 7 := by kernel_rfl
theorem zi_api_Space : (Tryd.prog.info? 33).map (fun i => (i.zero, i.size)) = some (some (.agg #[.int .i64 0, .int .i64 0, .int .i64 0, .slice none 0 0, .slice none 0 0, .slice none 0 0, .slice none 0 0]), 7) := by kernel_rfl
theorem ag_api_Space : Agg Tryd.prog 33 7 := ⟨_, Tryd.underlying33, rfl, sz_api_Space⟩
theorem sz_api_State : (Tryd.prog.info? 26).map (·.size) = some 35 := by kernel_rfl
theorem ag_api_State : Agg Tryd.prog 26 35 := ⟨_, Tryd.underlying26, rfl, sz_api_State⟩
theorem sz_api_Tenant : (Tryd.prog.info? 58).map (·.size) = some 35 := by kernel_rfl
theorem zi_api_Tenant : (Tryd.prog.info? 58).map (fun i => (i.zero, i.size)) = some (some (.agg #[.int .i64 0, .int .i64 0, .int .i64 0, .int .u8 0, .int .u8 0, .int .u8 0, .int .u8 0, .int .u8 0, .int .u8 0, .int .u8 0, .int .u8 0, .int .u8 0, .int .u8 0, .int .u8 0, .int .u8 0, .int .u8 0, .int .u8 0, .int .u8 0, .int .u8 0, .int .u8 0, .int .u8 0, .int .u8 0, .int .u8 0, .int .u8 0, .int .u8 0, .int .u8 0, .int .u8 0, .int .u8 0, .int .u8 0, .int .u8 0, .int .u8 0, .int .u8 0, .int .u8 0, .int .u8 0, .int .u8 0]), 35) := by kernel_rfl
theorem ag_api_Tenant : Agg Tryd.prog 58 35 := ⟨_, Tryd.underlying58, rfl, sz_api_Tenant⟩
theorem sz_int : (Tryd.prog.info? 3).map (·.size) = some 1 := by kernel_rfl
theorem sz_string : (Tryd.prog.info? 9).map (·.size) = some 1 := by kernel_rfl
theorem zi_string : (Tryd.prog.info? 9).map (fun i => (i.zero, i.size)) = some (some (.string ByteArray.empty), 1) := by kernel_rfl
theorem zb_string : (Tryd.prog.info? 9).map (fun i => (i.zero, i.size, i.bytes)) = some (some (.string ByteArray.empty), 1, 16) := by kernel_rfl
theorem zi_strings_Builder : (Tryd.prog.info? 54).map (fun i => (i.zero, i.size)) = some (some (.agg #[.pointer none, .slice none 0 0]), 2) := by kernel_rfl
theorem sz_uint8 : (Tryd.prog.info? 5).map (·.size) = some 1 := by kernel_rfl
theorem zi_uint8 : (Tryd.prog.info? 5).map (fun i => (i.zero, i.size)) = some (some (.int .u8 0), 1) := by kernel_rfl
theorem zb_uint8 : (Tryd.prog.info? 5).map (fun i => (i.zero, i.size, i.bytes)) = some (some (.int .u8 0), 1, 1) := by kernel_rfl
end Go.Proofs.YtnmeelkfpmodgaaDoor
