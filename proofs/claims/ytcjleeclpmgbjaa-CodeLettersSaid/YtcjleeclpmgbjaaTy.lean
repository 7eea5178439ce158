/- Facts on types: how many cells, the zero value. -/
import Derived.Test.YtcjleeclpmgbjaaInt
namespace Go.Proofs.Ytcjleeclpmgbjaa
open Go.RowKit
theorem sz_A32_uint8 : (Try.prog.info? 66).map (·.size) = some 32 := by kernel_rfl
theorem zi_A32_uint8 : (Try.prog.info? 66).map (fun i => (i.zero, i.size)) = some (some (.agg (List.replicate 32 (.int .u8 0)).toArray), 32) := by kernel_rfl
theorem ag_A32_uint8 : Agg Try.prog 66 32 := ⟨_, Try.underlying66, rfl, sz_A32_uint8⟩
theorem sz_A64_uint32 : (Try.prog.info? 89).map (·.size) = some 64 := by kernel_rfl
theorem zi_A64_uint32 : (Try.prog.info? 89).map (fun i => (i.zero, i.size)) = some (some (.agg (List.replicate 64 (.int .u32 0)).toArray), 64) := by kernel_rfl
theorem ag_A64_uint32 : Agg Try.prog 89 64 := ⟨_, Try.underlying89, rfl, sz_A64_uint32⟩
theorem sz_A8_uint32 : (Try.prog.info? 91).map (·.size) = some 8 := by kernel_rfl
theorem zi_A8_uint32 : (Try.prog.info? 91).map (fun i => (i.zero, i.size)) = some (some (.agg #[.int .u32 0, .int .u32 0, .int .u32 0, .int .u32 0, .int .u32 0, .int .u32 0, .int .u32 0, .int .u32 0]), 8) := by kernel_rfl
theorem ag_A8_uint32 : Agg Try.prog 91 8 := ⟨_, Try.underlying91, rfl, sz_A8_uint32⟩
theorem sz_Suint8 : (Try.prog.info? 22).map (·.size) = some 1 := by kernel_rfl
theorem zi_Suint8 : (Try.prog.info? 22).map (fun i => (i.zero, i.size)) = some (some (.slice none 0 0), 1) := by kernel_rfl
theorem sz_int : (Try.prog.info? 3).map (·.size) = some 1 := by kernel_rfl
theorem zi_int : (Try.prog.info? 3).map (fun i => (i.zero, i.size)) = some (some (.int .i64 0), 1) := by kernel_rfl
theorem zb_int : (Try.prog.info? 3).map (fun i => (i.zero, i.size, i.bytes)) = some (some (.int .i64 0), 1, 8) := by kernel_rfl
theorem sz_string : (Try.prog.info? 9).map (·.size) = some 1 := by kernel_rfl
theorem zi_string : (Try.prog.info? 9).map (fun i => (i.zero, i.size)) = some (some (.string ByteArray.empty), 1) := by kernel_rfl
theorem zb_string : (Try.prog.info? 9).map (fun i => (i.zero, i.size, i.bytes)) = some (some (.string ByteArray.empty), 1, 16) := by kernel_rfl
theorem zi_strings_Builder : (Try.prog.info? 82).map (fun i => (i.zero, i.size)) = some (some (.agg #[.pointer none, .slice none 0 0]), 2) := by kernel_rfl
theorem sz_uint32 : (Try.prog.info? 88).map (·.size) = some 1 := by kernel_rfl
theorem sz_uint8 : (Try.prog.info? 5).map (·.size) = some 1 := by kernel_rfl
theorem zi_uint8 : (Try.prog.info? 5).map (fun i => (i.zero, i.size)) = some (some (.int .u8 0), 1) := by kernel_rfl
theorem zb_uint8 : (Try.prog.info? 5).map (fun i => (i.zero, i.size, i.bytes)) = some (some (.int .u8 0), 1, 1) := by kernel_rfl
end Go.Proofs.Ytcjleeclpmgbjaa
