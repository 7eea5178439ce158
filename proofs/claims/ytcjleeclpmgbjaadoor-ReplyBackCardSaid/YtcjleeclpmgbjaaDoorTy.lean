/- Facts on types: how many cells, the zero value. -/
import Derived.Test.YtcjleeclpmgbjaaDoorInt
namespace Go.Proofs.YtcjleeclpmgbjaaDoor
open Go.RowKit
theorem sz_A20_api_Errno : (Tryd.prog.info? 59).map (·.size) = some 20 := by kernel_rfl
theorem zi_A20_api_Errno : (Tryd.prog.info? 59).map (fun i => (i.zero, i.size)) = some (some (.agg (List.replicate 20 (.int .i64 0)).toArray), 20) := by kernel_rfl
theorem ag_A20_api_Errno : Agg Tryd.prog 59 20 := ⟨_, Tryd.underlying59, rfl, sz_A20_api_Errno⟩
theorem sz_A20_string : (Tryd.prog.info? 61).map (·.size) = some 20 := by kernel_rfl
theorem zi_A20_string : (Tryd.prog.info? 61).map (fun i => (i.zero, i.size)) = some (some (.agg (List.replicate 20 (.string ByteArray.empty)).toArray), 20) := by kernel_rfl
theorem ag_A20_string : Agg Tryd.prog 61 20 := ⟨_, Tryd.underlying61, rfl, sz_A20_string⟩
theorem sz_Suint8 : (Tryd.prog.info? 23).map (·.size) = some 1 := by kernel_rfl
theorem sz_api_Errno : (Tryd.prog.info? 22).map (·.size) = some 1 := by kernel_rfl
theorem sz_api_Reply : (Tryd.prog.info? 25).map (·.size) = some 2 := by kernel_rfl
theorem zi_api_Reply : (Tryd.prog.info? 25).map (fun i => (i.zero, i.size)) = some (some (.agg #[.int .i64 0, .slice none 0 0]), 2) := by kernel_rfl
theorem ag_api_Reply : Agg Tryd.prog 25 2 := ⟨_, Tryd.underlying25, rfl, sz_api_Reply⟩
theorem sz_bool : (Tryd.prog.info? 4).map (·.size) = some 1 := by kernel_rfl
theorem zi_field_Writer : (Tryd.prog.info? 50).map (fun i => (i.zero, i.size)) = some (some (.agg #[.int .i64 0, .slice none 0 0]), 2) := by kernel_rfl
theorem sz_field_state : (Tryd.prog.info? 48).map (·.size) = some 1 := by kernel_rfl
theorem sz_string : (Tryd.prog.info? 9).map (·.size) = some 1 := by kernel_rfl
theorem zi_strings_Builder : (Tryd.prog.info? 76).map (fun i => (i.zero, i.size)) = some (some (.agg #[.pointer none, .slice none 0 0]), 2) := by kernel_rfl
theorem sz_uint8 : (Tryd.prog.info? 5).map (·.size) = some 1 := by kernel_rfl
theorem zi_uint8 : (Tryd.prog.info? 5).map (fun i => (i.zero, i.size)) = some (some (.int .u8 0), 1) := by kernel_rfl
theorem zb_uint8 : (Tryd.prog.info? 5).map (fun i => (i.zero, i.size, i.bytes)) = some (some (.int .u8 0), 1, 1) := by kernel_rfl
end Go.Proofs.YtcjleeclpmgbjaaDoor
