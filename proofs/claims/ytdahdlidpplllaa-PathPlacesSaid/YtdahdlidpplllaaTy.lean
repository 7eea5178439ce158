/- Facts on types: how many cells, the zero value. -/
import Derived.Test.YtdahdlidpplllaaInt
namespace Go.Proofs.Ytdahdlidpplllaa
open Go.RowKit
theorem sz_Pabi_Type : (Try.prog.info? 17).map (·.size) = some 1 := by kernel_rfl
theorem zi_Pabi_Type : (Try.prog.info? 17).map (fun i => (i.zero, i.size)) = some (some (.pointer none), 1) := by kernel_rfl
theorem zb_Pabi_Type : (Try.prog.info? 17).map (fun i => (i.zero, i.size, i.bytes)) = some (some (.pointer none), 1, 8) := by kernel_rfl
theorem sz_Panchor_Slot : (Try.prog.info? 52).map (·.size) = some 1 := by kernel_rfl
theorem zi_Panchor_Slot : (Try.prog.info? 52).map (fun i => (i.zero, i.size)) = some (some (.pointer none), 1) := by kernel_rfl
theorem zb_Panchor_Slot : (Try.prog.info? 52).map (fun i => (i.zero, i.size, i.bytes)) = some (some (.pointer none), 1, 8) := by kernel_rfl
theorem sz_Pchatelaineref12_Writer : (Try.prog.info? 65).map (·.size) = some 1 := by kernel_rfl
theorem zi_Pchatelaineref12_Writer : (Try.prog.info? 65).map (fun i => (i.zero, i.size)) = some (some (.pointer none), 1) := by kernel_rfl
theorem zb_Pchatelaineref12_Writer : (Try.prog.info? 65).map (fun i => (i.zero, i.size, i.bytes)) = some (some (.pointer none), 1, 8) := by kernel_rfl
theorem sz_Pchatelaineref36_Store : (Try.prog.info? 99).map (·.size) = some 1 := by kernel_rfl
theorem zi_Pchatelaineref36_Store : (Try.prog.info? 99).map (fun i => (i.zero, i.size)) = some (some (.pointer none), 1) := by kernel_rfl
theorem zb_Pchatelaineref36_Store : (Try.prog.info? 99).map (fun i => (i.zero, i.size, i.bytes)) = some (some (.pointer none), 1, 8) := by kernel_rfl
theorem sz_Pfield_Writer : (Try.prog.info? 64).map (·.size) = some 1 := by kernel_rfl
theorem zi_Pfield_Writer : (Try.prog.info? 64).map (fun i => (i.zero, i.size)) = some (some (.pointer none), 1) := by kernel_rfl
theorem zb_Pfield_Writer : (Try.prog.info? 64).map (fun i => (i.zero, i.size, i.bytes)) = some (some (.pointer none), 1, 8) := by kernel_rfl
theorem sz_Pfield_state : (Try.prog.info? 143).map (·.size) = some 1 := by kernel_rfl
theorem zi_Pfield_state : (Try.prog.info? 143).map (fun i => (i.zero, i.size)) = some (some (.pointer none), 1) := by kernel_rfl
theorem zb_Pfield_state : (Try.prog.info? 143).map (fun i => (i.zero, i.size, i.bytes)) = some (some (.pointer none), 1, 8) := by kernel_rfl
theorem sz_Pruntime_PanicNilError : (Try.prog.info? 16).map (·.size) = some 1 := by kernel_rfl
theorem zi_Pruntime_PanicNilError : (Try.prog.info? 16).map (fun i => (i.zero, i.size)) = some (some (.pointer none), 1) := by kernel_rfl
theorem zb_Pruntime_PanicNilError : (Try.prog.info? 16).map (fun i => (i.zero, i.size, i.bytes)) = some (some (.pointer none), 1, 8) := by kernel_rfl
theorem sz_Pruntime_TypeAssertionError : (Try.prog.info? 15).map (·.size) = some 1 := by kernel_rfl
theorem zi_Pruntime_TypeAssertionError : (Try.prog.info? 15).map (fun i => (i.zero, i.size)) = some (some (.pointer none), 1) := by kernel_rfl
theorem zb_Pruntime_TypeAssertionError : (Try.prog.info? 15).map (fun i => (i.zero, i.size, i.bytes)) = some (some (.pointer none), 1, 8) := by kernel_rfl
theorem sz_Pterm_Store : (Try.prog.info? 97).map (·.size) = some 1 := by kernel_rfl
theorem zi_Pterm_Store : (Try.prog.info? 97).map (fun i => (i.zero, i.size)) = some (some (.pointer none), 1) := by kernel_rfl
theorem zb_Pterm_Store : (Try.prog.info? 97).map (fun i => (i.zero, i.size, i.bytes)) = some (some (.pointer none), 1, 8) := by kernel_rfl
theorem sz_Puint8 : (Try.prog.info? 155).map (·.size) = some 1 := by kernel_rfl
theorem zi_Puint8 : (Try.prog.info? 155).map (fun i => (i.zero, i.size)) = some (some (.pointer none), 1) := by kernel_rfl
theorem zb_Puint8 : (Try.prog.info? 155).map (fun i => (i.zero, i.size, i.bytes)) = some (some (.pointer none), 1, 8) := by kernel_rfl
theorem sz_A0_Pruntime_PanicNilError : (Try.prog.info? 149).map (·.size) = some 0 := by kernel_rfl
theorem zi_A0_Pruntime_PanicNilError : (Try.prog.info? 149).map (fun i => (i.zero, i.size)) = some (some (.agg #[]), 0) := by kernel_rfl
theorem zb_A0_Pruntime_PanicNilError : (Try.prog.info? 149).map (fun i => (i.zero, i.size, i.bytes)) = some (some (.agg #[]), 0, 0) := by kernel_rfl
theorem ag_A0_Pruntime_PanicNilError : Agg Try.prog 149 0 := ⟨_, Try.underlying149, rfl, sz_A0_Pruntime_PanicNilError⟩
theorem sz_A2_A32_uint8 : (Try.prog.info? 59).map (·.size) = some 64 := by kernel_rfl
theorem zi_A2_A32_uint8 : (Try.prog.info? 59).map (fun i => (i.zero, i.size)) = some (some (.agg (List.replicate 64 (.int .u8 0)).toArray), 64) := by kernel_rfl
theorem zb_A2_A32_uint8 : (Try.prog.info? 59).map (fun i => (i.zero, i.size, i.bytes)) = some (some (.agg (List.replicate 64 (.int .u8 0)).toArray), 64, 64) := by kernel_rfl
theorem ag_A2_A32_uint8 : Agg Try.prog 59 64 := ⟨_, Try.underlying59, rfl, sz_A2_A32_uint8⟩
theorem sz_A32_uint8 : (Try.prog.info? 50).map (·.size) = some 32 := by kernel_rfl
theorem zi_A32_uint8 : (Try.prog.info? 50).map (fun i => (i.zero, i.size)) = some (some (.agg (List.replicate 32 (.int .u8 0)).toArray), 32) := by kernel_rfl
theorem zb_A32_uint8 : (Try.prog.info? 50).map (fun i => (i.zero, i.size, i.bytes)) = some (some (.agg (List.replicate 32 (.int .u8 0)).toArray), 32, 32) := by kernel_rfl
theorem ag_A32_uint8 : Agg Try.prog 50 32 := ⟨_, Try.underlying50, rfl, sz_A32_uint8⟩
theorem sz_A4_uint : (Try.prog.info? 113).map (·.size) = some 4 := by kernel_rfl
theorem zi_A4_uint : (Try.prog.info? 113).map (fun i => (i.zero, i.size)) = some (some (.agg #[.int .u64 0, .int .u64 0, .int .u64 0, .int .u64 0]), 4) := by kernel_rfl
theorem zb_A4_uint : (Try.prog.info? 113).map (fun i => (i.zero, i.size, i.bytes)) = some (some (.agg #[.int .u64 0, .int .u64 0, .int .u64 0, .int .u64 0]), 4, 32) := by kernel_rfl
theorem ag_A4_uint : Agg Try.prog 113 4 := ⟨_, Try.underlying113, rfl, sz_A4_uint⟩
theorem sz_A4_uint8 : (Try.prog.info? 112).map (·.size) = some 4 := by kernel_rfl
theorem zi_A4_uint8 : (Try.prog.info? 112).map (fun i => (i.zero, i.size)) = some (some (.agg #[.int .u8 0, .int .u8 0, .int .u8 0, .int .u8 0]), 4) := by kernel_rfl
theorem zb_A4_uint8 : (Try.prog.info? 112).map (fun i => (i.zero, i.size, i.bytes)) = some (some (.agg #[.int .u8 0, .int .u8 0, .int .u8 0, .int .u8 0]), 4, 4) := by kernel_rfl
theorem ag_A4_uint8 : Agg Try.prog 112 4 := ⟨_, Try.underlying112, rfl, sz_A4_uint8⟩
theorem sz_A5_int : (Try.prog.info? 132).map (·.size) = some 5 := by kernel_rfl
theorem zi_A5_int : (Try.prog.info? 132).map (fun i => (i.zero, i.size)) = some (some (.agg #[.int .i64 0, .int .i64 0, .int .i64 0, .int .i64 0, .int .i64 0]), 5) := by kernel_rfl
theorem zb_A5_int : (Try.prog.info? 132).map (fun i => (i.zero, i.size, i.bytes)) = some (some (.agg #[.int .i64 0, .int .i64 0, .int .i64 0, .int .i64 0, .int .i64 0]), 5, 40) := by kernel_rfl
theorem ag_A5_int : Agg Try.prog 132 5 := ⟨_, Try.underlying132, rfl, sz_A5_int⟩
theorem sz_SA2_A32_uint8 : (Try.prog.info? 51).map (·.size) = some 1 := by kernel_rfl
theorem zi_SA2_A32_uint8 : (Try.prog.info? 51).map (fun i => (i.zero, i.size)) = some (some (.slice none 0 0), 1) := by kernel_rfl
theorem zb_SA2_A32_uint8 : (Try.prog.info? 51).map (fun i => (i.zero, i.size, i.bytes)) = some (some (.slice none 0 0), 1, 24) := by kernel_rfl
theorem sz_Sapi_Term : (Try.prog.info? 81).map (·.size) = some 1 := by kernel_rfl
theorem zi_Sapi_Term : (Try.prog.info? 81).map (fun i => (i.zero, i.size)) = some (some (.slice none 0 0), 1) := by kernel_rfl
theorem zb_Sapi_Term : (Try.prog.info? 81).map (fun i => (i.zero, i.size, i.bytes)) = some (some (.slice none 0 0), 1, 24) := by kernel_rfl
theorem sz_Schatelainelaw12_Item : (Try.prog.info? 62).map (·.size) = some 1 := by kernel_rfl
theorem zi_Schatelainelaw12_Item : (Try.prog.info? 62).map (fun i => (i.zero, i.size)) = some (some (.slice none 0 0), 1) := by kernel_rfl
theorem zb_Schatelainelaw12_Item : (Try.prog.info? 62).map (fun i => (i.zero, i.size, i.bytes)) = some (some (.slice none 0 0), 1, 24) := by kernel_rfl
theorem sz_Schatelainelaw36_Do : (Try.prog.info? 96).map (·.size) = some 1 := by kernel_rfl
theorem zi_Schatelainelaw36_Do : (Try.prog.info? 96).map (fun i => (i.zero, i.size)) = some (some (.slice none 0 0), 1) := by kernel_rfl
theorem zb_Schatelainelaw36_Do : (Try.prog.info? 96).map (fun i => (i.zero, i.size, i.bytes)) = some (some (.slice none 0 0), 1, 24) := by kernel_rfl
theorem sz_Sint : (Try.prog.info? 78).map (·.size) = some 1 := by kernel_rfl
theorem zi_Sint : (Try.prog.info? 78).map (fun i => (i.zero, i.size)) = some (some (.slice none 0 0), 1) := by kernel_rfl
theorem zb_Sint : (Try.prog.info? 78).map (fun i => (i.zero, i.size, i.bytes)) = some (some (.slice none 0 0), 1, 24) := by kernel_rfl
theorem sz_Suint8 : (Try.prog.info? 23).map (·.size) = some 1 := by kernel_rfl
theorem zi_Suint8 : (Try.prog.info? 23).map (fun i => (i.zero, i.size)) = some (some (.slice none 0 0), 1) := by kernel_rfl
theorem zb_Suint8 : (Try.prog.info? 23).map (fun i => (i.zero, i.size, i.bytes)) = some (some (.slice none 0 0), 1, 24) := by kernel_rfl
theorem sz_abi_BoundsErrorCode : (Try.prog.info? 6).map (·.size) = some 1 := by kernel_rfl
theorem zi_abi_BoundsErrorCode : (Try.prog.info? 6).map (fun i => (i.zero, i.size)) = some (some (.int .u8 0), 1) := by kernel_rfl
theorem zb_abi_BoundsErrorCode : (Try.prog.info? 6).map (fun i => (i.zero, i.size, i.bytes)) = some (some (.int .u8 0), 1, 1) := by kernel_rfl
theorem sz_abi_Kind : (Try.prog.info? 153).map (·.size) = some 1 := by kernel_rfl
theorem zi_abi_Kind : (Try.prog.info? 153).map (fun i => (i.zero, i.size)) = some (some (.int .u8 0), 1) := by kernel_rfl
theorem zb_abi_Kind : (Try.prog.info? 153).map (fun i => (i.zero, i.size, i.bytes)) = some (some (.int .u8 0), 1, 1) := by kernel_rfl
theorem sz_abi_NameOff : (Try.prog.info? 156).map (·.size) = some 1 := by kernel_rfl
theorem zi_abi_NameOff : (Try.prog.info? 156).map (fun i => (i.zero, i.size)) = some (some (.int .i32 0), 1) := by kernel_rfl
theorem zb_abi_NameOff : (Try.prog.info? 156).map (fun i => (i.zero, i.size, i.bytes)) = some (some (.int .i32 0), 1, 4) := by kernel_rfl
theorem sz_abi_TFlag : (Try.prog.info? 152).map (·.size) = some 1 := by kernel_rfl
theorem zi_abi_TFlag : (Try.prog.info? 152).map (fun i => (i.zero, i.size)) = some (some (.int .u8 0), 1) := by kernel_rfl
theorem zb_abi_TFlag : (Try.prog.info? 152).map (fun i => (i.zero, i.size, i.bytes)) = some (some (.int .u8 0), 1, 1) := by kernel_rfl
theorem sz_abi_Type : (Try.prog.info? 159).map (·.size) = some 11 := by kernel_rfl
theorem zi_abi_Type : (Try.prog.info? 159).map (fun i => (i.zero, i.size)) = some (some (.agg #[.int .u64 0, .int .u64 0, .int .u32 0, .int .u8 0, .int .u8 0, .int .u8 0, .int .u8 0, .nilFunc, .pointer none, .int .i32 0, .int .i32 0]), 11) := by kernel_rfl
theorem zb_abi_Type : (Try.prog.info? 159).map (fun i => (i.zero, i.size, i.bytes)) = some (some (.agg #[.int .u64 0, .int .u64 0, .int .u32 0, .int .u8 0, .int .u8 0, .int .u8 0, .int .u8 0, .nilFunc, .pointer none, .int .i32 0, .int .i32 0]), 11, 48) := by kernel_rfl
theorem ag_abi_Type : Agg Try.prog 159 11 := ⟨_, Try.underlying159, rfl, sz_abi_Type⟩
theorem sz_abi_TypeOff : (Try.prog.info? 157).map (·.size) = some 1 := by kernel_rfl
theorem zi_abi_TypeOff : (Try.prog.info? 157).map (fun i => (i.zero, i.size)) = some (some (.int .i32 0), 1) := by kernel_rfl
theorem zb_abi_TypeOff : (Try.prog.info? 157).map (fun i => (i.zero, i.size, i.bytes)) = some (some (.int .i32 0), 1, 4) := by kernel_rfl
theorem sz_anchor_Slot : (Try.prog.info? 115).map (·.size) = some 67 := by kernel_rfl
theorem zi_anchor_Slot : (Try.prog.info? 115).map (fun i => (i.zero, i.size)) = some (some (.agg #[.int .i64 0, .int .u8 0, .int .u8 0, .int .u8 0, .int .u8 0, .int .u8 0, .int .u8 0, .int .u8 0, .int .u8 0, .int .u8 0, .int .u8 0, .int .u8 0, .int .u8 0, .int .u8 0, .int .u8 0, .int .u8 0, .int .u8 0, .int .u8 0, .int .u8 0, .int .u8 0, .int .u8 0, .int .u8 0, .int .u8 0, .int .u8 0, .int .u8 0, .int .u8 0, .int .u8 0, .int .u8 0, .int .u8 0, .int .u8 0, .int .u8 0, .int .u8 0, .int .u8 0, .int .u8 0, .int .u8 0, .int .u8 0, .int .u8 0, .int .u8 0, .int .u8 0, .int .u8 0, .int .u8 0, .int .u8 0, .int .u8 0, .int .u8 0, .int .u8 0, .int .u8 0, .int .u8 0, .int .u8 0, .int .u8 0, .int .u8 0, .int .u8 0, .int .u8 0, .int .u8 0, .int .u8 0, .int .u8 0, .int .u8 0, .int .u8 0, .int .u8 0, .int .u8 0, .int .u8 0, .int .u8 0, .int .u8 0, .int .u8 0, .int .u8 0, .int .u8 0, .int .i64 0, .bool false]), 67) := by kernel_rfl
theorem zb_anchor_Slot : (Try.prog.info? 115).map (fun i => (i.zero, i.size, i.bytes)) = some (some (.agg #[.int .i64 0, .int .u8 0, .int .u8 0, .int .u8 0, .int .u8 0, .int .u8 0, .int .u8 0, .int .u8 0, .int .u8 0, .int .u8 0, .int .u8 0, .int .u8 0, .int .u8 0, .int .u8 0, .int .u8 0, .int .u8 0, .int .u8 0, .int .u8 0, .int .u8 0, .int .u8 0, .int .u8 0, .int .u8 0, .int .u8 0, .int .u8 0, .int .u8 0, .int .u8 0, .int .u8 0, .int .u8 0, .int .u8 0, .int .u8 0, .int .u8 0, .int .u8 0, .int .u8 0, .int .u8 0, .int .u8 0, .int .u8 0, .int .u8 0, .int .u8 0, .int .u8 0, .int .u8 0, .int .u8 0, .int .u8 0, .int .u8 0, .int .u8 0, .int .u8 0, .int .u8 0, .int .u8 0, .int .u8 0, .int .u8 0, .int .u8 0, .int .u8 0, .int .u8 0, .int .u8 0, .int .u8 0, .int .u8 0, .int .u8 0, .int .u8 0, .int .u8 0, .int .u8 0, .int .u8 0, .int .u8 0, .int .u8 0, .int .u8 0, .int .u8 0, .int .u8 0, .int .i64 0, .bool false]), 67, 88) := by kernel_rfl
theorem ag_anchor_Slot : Agg Try.prog 115 67 := ⟨_, Try.underlying115, rfl, sz_anchor_Slot⟩
theorem sz_api_Errno : (Try.prog.info? 31).map (·.size) = some 1 := by kernel_rfl
theorem zi_api_Errno : (Try.prog.info? 31).map (fun i => (i.zero, i.size)) = some (some (.int .i64 0), 1) := by kernel_rfl
theorem zb_api_Errno : (Try.prog.info? 31).map (fun i => (i.zero, i.size, i.bytes)) = some (some (.int .i64 0), 1, 8) := by kernel_rfl
theorem sz_api_Root : (Try.prog.info? 56).map (·.size) = some 65 := by kernel_rfl
theorem zi_api_Root : (Try.prog.info? 56).map (fun i => (i.zero, i.size)) = some (some (.agg #[.int .i64 0, .int .u8 0, .int .u8 0, .int .u8 0, .int .u8 0, .int .u8 0, .int .u8 0, .int .u8 0, .int .u8 0, .int .u8 0, .int .u8 0, .int .u8 0, .int .u8 0, .int .u8 0, .int .u8 0, .int .u8 0, .int .u8 0, .int .u8 0, .int .u8 0, .int .u8 0, .int .u8 0, .int .u8 0, .int .u8 0, .int .u8 0, .int .u8 0, .int .u8 0, .int .u8 0, .int .u8 0, .int .u8 0, .int .u8 0, .int .u8 0, .int .u8 0, .int .u8 0, .int .u8 0, .int .u8 0, .int .u8 0, .int .u8 0, .int .u8 0, .int .u8 0, .int .u8 0, .int .u8 0, .int .u8 0, .int .u8 0, .int .u8 0, .int .u8 0, .int .u8 0, .int .u8 0, .int .u8 0, .int .u8 0, .int .u8 0, .int .u8 0, .int .u8 0, .int .u8 0, .int .u8 0, .int .u8 0, .int .u8 0, .int .u8 0, .int .u8 0, .int .u8 0, .int .u8 0, .int .u8 0, .int .u8 0, .int .u8 0, .int .u8 0, .int .u8 0]), 65) := by kernel_rfl
theorem zb_api_Root : (Try.prog.info? 56).map (fun i => (i.zero, i.size, i.bytes)) = some (some (.agg #[.int .i64 0, .int .u8 0, .int .u8 0, .int .u8 0, .int .u8 0, .int .u8 0, .int .u8 0, .int .u8 0, .int .u8 0, .int .u8 0, .int .u8 0, .int .u8 0, .int .u8 0, .int .u8 0, .int .u8 0, .int .u8 0, .int .u8 0, .int .u8 0, .int .u8 0, .int .u8 0, .int .u8 0, .int .u8 0, .int .u8 0, .int .u8 0, .int .u8 0, .int .u8 0, .int .u8 0, .int .u8 0, .int .u8 0, .int .u8 0, .int .u8 0, .int .u8 0, .int .u8 0, .int .u8 0, .int .u8 0, .int .u8 0, .int .u8 0, .int .u8 0, .int .u8 0, .int .u8 0, .int .u8 0, .int .u8 0, .int .u8 0, .int .u8 0, .int .u8 0, .int .u8 0, .int .u8 0, .int .u8 0, .int .u8 0, .int .u8 0, .int .u8 0, .int .u8 0, .int .u8 0, .int .u8 0, .int .u8 0, .int .u8 0, .int .u8 0, .int .u8 0, .int .u8 0, .int .u8 0, .int .u8 0, .int .u8 0, .int .u8 0, .int .u8 0, .int .u8 0]), 65, 72) := by kernel_rfl
theorem ag_api_Root : Agg Try.prog 56 65 := ⟨_, Try.underlying56, rfl, sz_api_Root⟩
theorem sz_api_Term : (Try.prog.info? 89).map (·.size) = some 3 := by kernel_rfl
theorem zi_api_Term : (Try.prog.info? 89).map (fun i => (i.zero, i.size)) = some (some (.agg #[.int .i64 0, .int .i64 0, .int .i64 0]), 3) := by kernel_rfl
theorem zb_api_Term : (Try.prog.info? 89).map (fun i => (i.zero, i.size, i.bytes)) = some (some (.agg #[.int .i64 0, .int .i64 0, .int .i64 0]), 3, 24) := by kernel_rfl
theorem ag_api_Term : Agg Try.prog 89 3 := ⟨_, Try.underlying89, rfl, sz_api_Term⟩
theorem sz_bool : (Try.prog.info? 4).map (·.size) = some 1 := by kernel_rfl
theorem zi_bool : (Try.prog.info? 4).map (fun i => (i.zero, i.size)) = some (some (.bool false), 1) := by kernel_rfl
theorem zb_bool : (Try.prog.info? 4).map (fun i => (i.zero, i.size, i.bytes)) = some (some (.bool false), 1, 1) := by kernel_rfl
theorem sz_chatelainelaw12_Item : (Try.prog.info? 123).map (·.size) = some 4 := by kernel_rfl
theorem zi_chatelainelaw12_Item : (Try.prog.info? 123).map (fun i => (i.zero, i.size)) = some (some (.agg #[.int .i64 0, .int .i64 0, .int .i64 0, .slice none 0 0]), 4) := by kernel_rfl
theorem zb_chatelainelaw12_Item : (Try.prog.info? 123).map (fun i => (i.zero, i.size, i.bytes)) = some (some (.agg #[.int .i64 0, .int .i64 0, .int .i64 0, .slice none 0 0]), 4, 48) := by kernel_rfl
theorem ag_chatelainelaw12_Item : Agg Try.prog 123 4 := ⟨_, Try.underlying123, rfl, sz_chatelainelaw12_Item⟩
theorem sz_chatelainelaw36_Do : (Try.prog.info? 103).map (·.size) = some 5 := by kernel_rfl
theorem zi_chatelainelaw36_Do : (Try.prog.info? 103).map (fun i => (i.zero, i.size)) = some (some (.agg #[.bool false, .int .i64 0, .int .i64 0, .int .i64 0, .int .i64 0]), 5) := by kernel_rfl
theorem zb_chatelainelaw36_Do : (Try.prog.info? 103).map (fun i => (i.zero, i.size, i.bytes)) = some (some (.agg #[.bool false, .int .i64 0, .int .i64 0, .int .i64 0, .int .i64 0]), 5, 40) := by kernel_rfl
theorem ag_chatelainelaw36_Do : Agg Try.prog 103 5 := ⟨_, Try.underlying103, rfl, sz_chatelainelaw36_Do⟩
theorem sz_chatelaineref12_Writer : (Try.prog.info? 125).map (·.size) = some 2 := by kernel_rfl
theorem zi_chatelaineref12_Writer : (Try.prog.info? 125).map (fun i => (i.zero, i.size)) = some (some (.agg #[.slice none 0 0, .int .i64 0]), 2) := by kernel_rfl
theorem zb_chatelaineref12_Writer : (Try.prog.info? 125).map (fun i => (i.zero, i.size, i.bytes)) = some (some (.agg #[.slice none 0 0, .int .i64 0]), 2, 32) := by kernel_rfl
theorem ag_chatelaineref12_Writer : Agg Try.prog 125 2 := ⟨_, Try.underlying125, rfl, sz_chatelaineref12_Writer⟩
theorem sz_chatelaineref36_Store : (Try.prog.info? 101).map (·.size) = some 1 := by kernel_rfl
theorem zi_chatelaineref36_Store : (Try.prog.info? 101).map (fun i => (i.zero, i.size)) = some (some (.agg #[.slice none 0 0]), 1) := by kernel_rfl
theorem zb_chatelaineref36_Store : (Try.prog.info? 101).map (fun i => (i.zero, i.size, i.bytes)) = some (some (.agg #[.slice none 0 0]), 1, 24) := by kernel_rfl
theorem ag_chatelaineref36_Store : Agg Try.prog 101 1 := ⟨_, Try.underlying101, rfl, sz_chatelaineref36_Store⟩
theorem sz_field_Writer : (Try.prog.info? 119).map (·.size) = some 2 := by kernel_rfl
theorem zi_field_Writer : (Try.prog.info? 119).map (fun i => (i.zero, i.size)) = some (some (.agg #[.int .i64 0, .slice none 0 0]), 2) := by kernel_rfl
theorem zb_field_Writer : (Try.prog.info? 119).map (fun i => (i.zero, i.size, i.bytes)) = some (some (.agg #[.int .i64 0, .slice none 0 0]), 2, 32) := by kernel_rfl
theorem ag_field_Writer : Agg Try.prog 119 2 := ⟨_, Try.underlying119, rfl, sz_field_Writer⟩
theorem sz_field_state : (Try.prog.info? 117).map (·.size) = some 1 := by kernel_rfl
theorem zi_field_state : (Try.prog.info? 117).map (fun i => (i.zero, i.size)) = some (some (.agg #[.int .i64 0]), 1) := by kernel_rfl
theorem zb_field_state : (Try.prog.info? 117).map (fun i => (i.zero, i.size, i.bytes)) = some (some (.agg #[.int .i64 0]), 1, 8) := by kernel_rfl
theorem ag_field_state : Agg Try.prog 117 1 := ⟨_, Try.underlying117, rfl, sz_field_state⟩
theorem sz_int : (Try.prog.info? 3).map (·.size) = some 1 := by kernel_rfl
theorem zi_int : (Try.prog.info? 3).map (fun i => (i.zero, i.size)) = some (some (.int .i64 0), 1) := by kernel_rfl
theorem zb_int : (Try.prog.info? 3).map (fun i => (i.zero, i.size, i.bytes)) = some (some (.int .i64 0), 1, 8) := by kernel_rfl
theorem sz_int32 : (Try.prog.info? 21).map (·.size) = some 1 := by kernel_rfl
theorem zi_int32 : (Try.prog.info? 21).map (fun i => (i.zero, i.size)) = some (some (.int .i32 0), 1) := by kernel_rfl
theorem zb_int32 : (Try.prog.info? 21).map (fun i => (i.zero, i.size, i.bytes)) = some (some (.int .i32 0), 1, 4) := by kernel_rfl
theorem sz_int64 : (Try.prog.info? 2).map (·.size) = some 1 := by kernel_rfl
theorem zi_int64 : (Try.prog.info? 2).map (fun i => (i.zero, i.size)) = some (some (.int .i64 0), 1) := by kernel_rfl
theorem zb_int64 : (Try.prog.info? 2).map (fun i => (i.zero, i.size, i.bytes)) = some (some (.int .i64 0), 1, 8) := by kernel_rfl
theorem sz_M_api_Term_api_Term : (Try.prog.info? 145).map (·.size) = some 1 := by kernel_rfl
theorem zi_M_api_Term_api_Term : (Try.prog.info? 145).map (fun i => (i.zero, i.size)) = some (some (.map none), 1) := by kernel_rfl
theorem zb_M_api_Term_api_Term : (Try.prog.info? 145).map (fun i => (i.zero, i.size, i.bytes)) = some (some (.map none), 1, 8) := by kernel_rfl
theorem sz_M_api_Term_bool : (Try.prog.info? 133).map (·.size) = some 1 := by kernel_rfl
theorem zi_M_api_Term_bool : (Try.prog.info? 133).map (fun i => (i.zero, i.size)) = some (some (.map none), 1) := by kernel_rfl
theorem zb_M_api_Term_bool : (Try.prog.info? 133).map (fun i => (i.zero, i.size, i.bytes)) = some (some (.map none), 1, 8) := by kernel_rfl
theorem sz_M_api_Term_int : (Try.prog.info? 135).map (·.size) = some 1 := by kernel_rfl
theorem zi_M_api_Term_int : (Try.prog.info? 135).map (fun i => (i.zero, i.size)) = some (some (.map none), 1) := by kernel_rfl
theorem zb_M_api_Term_int : (Try.prog.info? 135).map (fun i => (i.zero, i.size, i.bytes)) = some (some (.map none), 1, 8) := by kernel_rfl
theorem sz_M_int_int : (Try.prog.info? 136).map (·.size) = some 1 := by kernel_rfl
theorem zi_M_int_int : (Try.prog.info? 136).map (fun i => (i.zero, i.size)) = some (some (.map none), 1) := by kernel_rfl
theorem zb_M_int_int : (Try.prog.info? 136).map (fun i => (i.zero, i.size, i.bytes)) = some (some (.map none), 1, 8) := by kernel_rfl
theorem sz_maps_unhashableTypeError : (Try.prog.info? 19).map (·.size) = some 1 := by kernel_rfl
theorem zi_maps_unhashableTypeError : (Try.prog.info? 19).map (fun i => (i.zero, i.size)) = some (some (.agg #[.pointer none]), 1) := by kernel_rfl
theorem zb_maps_unhashableTypeError : (Try.prog.info? 19).map (fun i => (i.zero, i.size, i.bytes)) = some (some (.agg #[.pointer none]), 1, 8) := by kernel_rfl
theorem ag_maps_unhashableTypeError : Agg Try.prog 19 1 := ⟨_, Try.underlying19, rfl, sz_maps_unhashableTypeError⟩
theorem sz_runtime_PanicNilError : (Try.prog.info? 151).map (·.size) = some 0 := by kernel_rfl
theorem zi_runtime_PanicNilError : (Try.prog.info? 151).map (fun i => (i.zero, i.size)) = some (some (.agg #[]), 0) := by kernel_rfl
theorem zb_runtime_PanicNilError : (Try.prog.info? 151).map (fun i => (i.zero, i.size, i.bytes)) = some (some (.agg #[]), 0, 0) := by kernel_rfl
theorem ag_runtime_PanicNilError : Agg Try.prog 151 0 := ⟨_, Try.underlying151, rfl, sz_runtime_PanicNilError⟩
theorem sz_runtime_TypeAssertionError : (Try.prog.info? 148).map (·.size) = some 4 := by kernel_rfl
theorem zi_runtime_TypeAssertionError : (Try.prog.info? 148).map (fun i => (i.zero, i.size)) = some (some (.agg #[.pointer none, .pointer none, .pointer none, .string ByteArray.empty]), 4) := by kernel_rfl
theorem zb_runtime_TypeAssertionError : (Try.prog.info? 148).map (fun i => (i.zero, i.size, i.bytes)) = some (some (.agg #[.pointer none, .pointer none, .pointer none, .string ByteArray.empty]), 4, 40) := by kernel_rfl
theorem ag_runtime_TypeAssertionError : Agg Try.prog 148 4 := ⟨_, Try.underlying148, rfl, sz_runtime_TypeAssertionError⟩
theorem sz_runtime_boundsError : (Try.prog.info? 8).map (·.size) = some 4 := by kernel_rfl
theorem zi_runtime_boundsError : (Try.prog.info? 8).map (fun i => (i.zero, i.size)) = some (some (.agg #[.int .i64 0, .int .i64 0, .bool false, .int .u8 0]), 4) := by kernel_rfl
theorem zb_runtime_boundsError : (Try.prog.info? 8).map (fun i => (i.zero, i.size, i.bytes)) = some (some (.agg #[.int .i64 0, .int .i64 0, .bool false, .int .u8 0]), 4, 24) := by kernel_rfl
theorem ag_runtime_boundsError : Agg Try.prog 8 4 := ⟨_, Try.underlying8, rfl, sz_runtime_boundsError⟩
theorem sz_runtime_errorAddressString : (Try.prog.info? 14).map (·.size) = some 2 := by kernel_rfl
theorem zi_runtime_errorAddressString : (Try.prog.info? 14).map (fun i => (i.zero, i.size)) = some (some (.agg #[.string ByteArray.empty, .int .u64 0]), 2) := by kernel_rfl
theorem zb_runtime_errorAddressString : (Try.prog.info? 14).map (fun i => (i.zero, i.size, i.bytes)) = some (some (.agg #[.string ByteArray.empty, .int .u64 0]), 2, 24) := by kernel_rfl
theorem ag_runtime_errorAddressString : Agg Try.prog 14 2 := ⟨_, Try.underlying14, rfl, sz_runtime_errorAddressString⟩
theorem sz_runtime_errorString : (Try.prog.info? 10).map (·.size) = some 1 := by kernel_rfl
theorem zi_runtime_errorString : (Try.prog.info? 10).map (fun i => (i.zero, i.size)) = some (some (.string ByteArray.empty), 1) := by kernel_rfl
theorem zb_runtime_errorString : (Try.prog.info? 10).map (fun i => (i.zero, i.size, i.bytes)) = some (some (.string ByteArray.empty), 1, 16) := by kernel_rfl
theorem sz_runtime_plainError : (Try.prog.info? 11).map (·.size) = some 1 := by kernel_rfl
theorem zi_runtime_plainError : (Try.prog.info? 11).map (fun i => (i.zero, i.size)) = some (some (.string ByteArray.empty), 1) := by kernel_rfl
theorem zb_runtime_plainError : (Try.prog.info? 11).map (fun i => (i.zero, i.size, i.bytes)) = some (some (.string ByteArray.empty), 1, 16) := by kernel_rfl
theorem sz_string : (Try.prog.info? 9).map (·.size) = some 1 := by kernel_rfl
theorem zi_string : (Try.prog.info? 9).map (fun i => (i.zero, i.size)) = some (some (.string ByteArray.empty), 1) := by kernel_rfl
theorem zb_string : (Try.prog.info? 9).map (fun i => (i.zero, i.size, i.bytes)) = some (some (.string ByteArray.empty), 1, 16) := by kernel_rfl
theorem sz_StBSuint8_Wrongint_ : (Try.prog.info? 124).map (·.size) = some 2 := by kernel_rfl
theorem zi_StBSuint8_Wrongint_ : (Try.prog.info? 124).map (fun i => (i.zero, i.size)) = some (some (.agg #[.slice none 0 0, .int .i64 0]), 2) := by kernel_rfl
theorem zb_StBSuint8_Wrongint_ : (Try.prog.info? 124).map (fun i => (i.zero, i.size, i.bytes)) = some (some (.agg #[.slice none 0 0, .int .i64 0]), 2, 32) := by kernel_rfl
theorem ag_StBSuint8_Wrongint_ : Agg Try.prog 124 2 := ⟨_, Try.underlying124, rfl, sz_StBSuint8_Wrongint_⟩
theorem sz_StCountint_KeyA32_uint8_SumA32_uint8_ : (Try.prog.info? 55).map (·.size) = some 65 := by kernel_rfl
theorem zi_StCountint_KeyA32_uint8_SumA32_uint8_ : (Try.prog.info? 55).map (fun i => (i.zero, i.size)) = some (some (.agg #[.int .i64 0, .int .u8 0, .int .u8 0, .int .u8 0, .int .u8 0, .int .u8 0, .int .u8 0, .int .u8 0, .int .u8 0, .int .u8 0, .int .u8 0, .int .u8 0, .int .u8 0, .int .u8 0, .int .u8 0, .int .u8 0, .int .u8 0, .int .u8 0, .int .u8 0, .int .u8 0, .int .u8 0, .int .u8 0, .int .u8 0, .int .u8 0, .int .u8 0, .int .u8 0, .int .u8 0, .int .u8 0, .int .u8 0, .int .u8 0, .int .u8 0, .int .u8 0, .int .u8 0, .int .u8 0, .int .u8 0, .int .u8 0, .int .u8 0, .int .u8 0, .int .u8 0, .int .u8 0, .int .u8 0, .int .u8 0, .int .u8 0, .int .u8 0, .int .u8 0, .int .u8 0, .int .u8 0, .int .u8 0, .int .u8 0, .int .u8 0, .int .u8 0, .int .u8 0, .int .u8 0, .int .u8 0, .int .u8 0, .int .u8 0, .int .u8 0, .int .u8 0, .int .u8 0, .int .u8 0, .int .u8 0, .int .u8 0, .int .u8 0, .int .u8 0, .int .u8 0]), 65) := by kernel_rfl
theorem zb_StCountint_KeyA32_uint8_SumA32_uint8_ : (Try.prog.info? 55).map (fun i => (i.zero, i.size, i.bytes)) = some (some (.agg #[.int .i64 0, .int .u8 0, .int .u8 0, .int .u8 0, .int .u8 0, .int .u8 0, .int .u8 0, .int .u8 0, .int .u8 0, .int .u8 0, .int .u8 0, .int .u8 0, .int .u8 0, .int .u8 0, .int .u8 0, .int .u8 0, .int .u8 0, .int .u8 0, .int .u8 0, .int .u8 0, .int .u8 0, .int .u8 0, .int .u8 0, .int .u8 0, .int .u8 0, .int .u8 0, .int .u8 0, .int .u8 0, .int .u8 0, .int .u8 0, .int .u8 0, .int .u8 0, .int .u8 0, .int .u8 0, .int .u8 0, .int .u8 0, .int .u8 0, .int .u8 0, .int .u8 0, .int .u8 0, .int .u8 0, .int .u8 0, .int .u8 0, .int .u8 0, .int .u8 0, .int .u8 0, .int .u8 0, .int .u8 0, .int .u8 0, .int .u8 0, .int .u8 0, .int .u8 0, .int .u8 0, .int .u8 0, .int .u8 0, .int .u8 0, .int .u8 0, .int .u8 0, .int .u8 0, .int .u8 0, .int .u8 0, .int .u8 0, .int .u8 0, .int .u8 0, .int .u8 0]), 65, 72) := by kernel_rfl
theorem ag_StCountint_KeyA32_uint8_SumA32_uint8_ : Agg Try.prog 55 65 := ⟨_, Try.underlying55, rfl, sz_StCountint_KeyA32_uint8_SumA32_uint8_⟩
theorem sz_StFreshbool_Nint_Tapi_Term_ : (Try.prog.info? 102).map (·.size) = some 5 := by kernel_rfl
theorem zi_StFreshbool_Nint_Tapi_Term_ : (Try.prog.info? 102).map (fun i => (i.zero, i.size)) = some (some (.agg #[.bool false, .int .i64 0, .int .i64 0, .int .i64 0, .int .i64 0]), 5) := by kernel_rfl
theorem zb_StFreshbool_Nint_Tapi_Term_ : (Try.prog.info? 102).map (fun i => (i.zero, i.size, i.bytes)) = some (some (.agg #[.bool false, .int .i64 0, .int .i64 0, .int .i64 0, .int .i64 0]), 5, 40) := by kernel_rfl
theorem ag_StFreshbool_Nint_Tapi_Term_ : Agg Try.prog 102 5 := ⟨_, Try.underlying102, rfl, sz_StFreshbool_Nint_Tapi_Term_⟩
theorem sz_StKindint_Aint_Bint_ : (Try.prog.info? 88).map (·.size) = some 3 := by kernel_rfl
theorem zi_StKindint_Aint_Bint_ : (Try.prog.info? 88).map (fun i => (i.zero, i.size)) = some (some (.agg #[.int .i64 0, .int .i64 0, .int .i64 0]), 3) := by kernel_rfl
theorem zb_StKindint_Aint_Bint_ : (Try.prog.info? 88).map (fun i => (i.zero, i.size, i.bytes)) = some (some (.agg #[.int .i64 0, .int .i64 0, .int .i64 0]), 3, 24) := by kernel_rfl
theorem ag_StKindint_Aint_Bint_ : Agg Try.prog 88 3 := ⟨_, Try.underlying88, rfl, sz_StKindint_Aint_Bint_⟩
theorem sz_StKindint_Nint_Sizeint_BSuint8_ : (Try.prog.info? 122).map (·.size) = some 4 := by kernel_rfl
theorem zi_StKindint_Nint_Sizeint_BSuint8_ : (Try.prog.info? 122).map (fun i => (i.zero, i.size)) = some (some (.agg #[.int .i64 0, .int .i64 0, .int .i64 0, .slice none 0 0]), 4) := by kernel_rfl
theorem zb_StKindint_Nint_Sizeint_BSuint8_ : (Try.prog.info? 122).map (fun i => (i.zero, i.size, i.bytes)) = some (some (.agg #[.int .i64 0, .int .i64 0, .int .i64 0, .slice none 0 0]), 4, 48) := by kernel_rfl
theorem ag_StKindint_Nint_Sizeint_BSuint8_ : Agg Try.prog 122 4 := ⟨_, Try.underlying122, rfl, sz_StKindint_Nint_Sizeint_BSuint8_⟩
theorem sz_StLSapi_Term_ : (Try.prog.info? 100).map (·.size) = some 1 := by kernel_rfl
theorem zi_StLSapi_Term_ : (Try.prog.info? 100).map (fun i => (i.zero, i.size)) = some (some (.agg #[.slice none 0 0]), 1) := by kernel_rfl
theorem zb_StLSapi_Term_ : (Try.prog.info? 100).map (fun i => (i.zero, i.size, i.bytes)) = some (some (.agg #[.slice none 0 0]), 1, 24) := by kernel_rfl
theorem ag_StLSapi_Term_ : Agg Try.prog 100 1 := ⟨_, Try.underlying100, rfl, sz_StLSapi_Term_⟩
theorem sz_StSize_uintptr_PtrBytesuintptr_Hashuint32_TFlagabi_TFlag_Align_uint8_FieldAlign_uint8_Kind_abi_Kind_Equalfunc_unsafe_Pointer_unsafe_Pointer_bool_GCDataPuint8_Strabi_NameOff_PtrToThisabi_TypeOff_ : (Try.prog.info? 158).map (·.size) = some 11 := by kernel_rfl
theorem zi_StSize_uintptr_PtrBytesuintptr_Hashuint32_TFlagabi_TFlag_Align_uint8_FieldAlign_uint8_Kind_abi_Kind_Equalfunc_unsafe_Pointer_unsafe_Pointer_bool_GCDataPuint8_Strabi_NameOff_PtrToThisabi_TypeOff_ : (Try.prog.info? 158).map (fun i => (i.zero, i.size)) = some (some (.agg #[.int .u64 0, .int .u64 0, .int .u32 0, .int .u8 0, .int .u8 0, .int .u8 0, .int .u8 0, .nilFunc, .pointer none, .int .i32 0, .int .i32 0]), 11) := by kernel_rfl
theorem zb_StSize_uintptr_PtrBytesuintptr_Hashuint32_TFlagabi_TFlag_Align_uint8_FieldAlign_uint8_Kind_abi_Kind_Equalfunc_unsafe_Pointer_unsafe_Pointer_bool_GCDataPuint8_Strabi_NameOff_PtrToThisabi_TypeOff_ : (Try.prog.info? 158).map (fun i => (i.zero, i.size, i.bytes)) = some (some (.agg #[.int .u64 0, .int .u64 0, .int .u32 0, .int .u8 0, .int .u8 0, .int .u8 0, .int .u8 0, .nilFunc, .pointer none, .int .i32 0, .int .i32 0]), 11, 48) := by kernel_rfl
theorem ag_StSize_uintptr_PtrBytesuintptr_Hashuint32_TFlagabi_TFlag_Align_uint8_FieldAlign_uint8_Kind_abi_Kind_Equalfunc_unsafe_Pointer_unsafe_Pointer_bool_GCDataPuint8_Strabi_NameOff_PtrToThisabi_TypeOff_ : Agg Try.prog 158 11 := ⟨_, Try.underlying158, rfl, sz_StSize_uintptr_PtrBytesuintptr_Hashuint32_TFlagabi_TFlag_Align_uint8_FieldAlign_uint8_Kind_abi_Kind_Equalfunc_unsafe_Pointer_unsafe_Pointer_bool_GCDataPuint8_Strabi_NameOff_PtrToThisabi_TypeOff_⟩
theorem sz_St_A0_Pruntime_PanicNilError_ : (Try.prog.info? 150).map (·.size) = some 0 := by kernel_rfl
theorem zi_St_A0_Pruntime_PanicNilError_ : (Try.prog.info? 150).map (fun i => (i.zero, i.size)) = some (some (.agg #[]), 0) := by kernel_rfl
theorem zb_St_A0_Pruntime_PanicNilError_ : (Try.prog.info? 150).map (fun i => (i.zero, i.size, i.bytes)) = some (some (.agg #[]), 0, 0) := by kernel_rfl
theorem ag_St_A0_Pruntime_PanicNilError_ : Agg Try.prog 150 0 := ⟨_, Try.underlying150, rfl, sz_St_A0_Pruntime_PanicNilError_⟩
theorem sz_St_interfacePabi_Type_concretePabi_Type_assertedPabi_Type_missingMethodstring_ : (Try.prog.info? 147).map (·.size) = some 4 := by kernel_rfl
theorem zi_St_interfacePabi_Type_concretePabi_Type_assertedPabi_Type_missingMethodstring_ : (Try.prog.info? 147).map (fun i => (i.zero, i.size)) = some (some (.agg #[.pointer none, .pointer none, .pointer none, .string ByteArray.empty]), 4) := by kernel_rfl
theorem zb_St_interfacePabi_Type_concretePabi_Type_assertedPabi_Type_missingMethodstring_ : (Try.prog.info? 147).map (fun i => (i.zero, i.size, i.bytes)) = some (some (.agg #[.pointer none, .pointer none, .pointer none, .string ByteArray.empty]), 4, 40) := by kernel_rfl
theorem ag_St_interfacePabi_Type_concretePabi_Type_assertedPabi_Type_missingMethodstring_ : Agg Try.prog 147 4 := ⟨_, Try.underlying147, rfl, sz_St_interfacePabi_Type_concretePabi_Type_assertedPabi_Type_missingMethodstring_⟩
theorem sz_Stfield_state_bSuint8_ : (Try.prog.info? 118).map (·.size) = some 2 := by kernel_rfl
theorem zi_Stfield_state_bSuint8_ : (Try.prog.info? 118).map (fun i => (i.zero, i.size)) = some (some (.agg #[.int .i64 0, .slice none 0 0]), 2) := by kernel_rfl
theorem zb_Stfield_state_bSuint8_ : (Try.prog.info? 118).map (fun i => (i.zero, i.size, i.bytes)) = some (some (.agg #[.int .i64 0, .slice none 0 0]), 2, 32) := by kernel_rfl
theorem ag_Stfield_state_bSuint8_ : Agg Try.prog 118 2 := ⟨_, Try.underlying118, rfl, sz_Stfield_state_bSuint8_⟩
theorem sz_StlSapi_Term_placesM_api_Term_int_sortsM_int_int_ : (Try.prog.info? 137).map (·.size) = some 3 := by kernel_rfl
theorem zi_StlSapi_Term_placesM_api_Term_int_sortsM_int_int_ : (Try.prog.info? 137).map (fun i => (i.zero, i.size)) = some (some (.agg #[.slice none 0 0, .map none, .map none]), 3) := by kernel_rfl
theorem zb_StlSapi_Term_placesM_api_Term_int_sortsM_int_int_ : (Try.prog.info? 137).map (fun i => (i.zero, i.size, i.bytes)) = some (some (.agg #[.slice none 0 0, .map none, .map none]), 3, 40) := by kernel_rfl
theorem ag_StlSapi_Term_placesM_api_Term_int_sortsM_int_int_ : Agg Try.prog 137 3 := ⟨_, Try.underlying137, rfl, sz_StlSapi_Term_placesM_api_Term_int_sortsM_int_int_⟩
theorem sz_Stmsgstring_addruintptr_ : (Try.prog.info? 13).map (·.size) = some 2 := by kernel_rfl
theorem zi_Stmsgstring_addruintptr_ : (Try.prog.info? 13).map (fun i => (i.zero, i.size)) = some (some (.agg #[.string ByteArray.empty, .int .u64 0]), 2) := by kernel_rfl
theorem zb_Stmsgstring_addruintptr_ : (Try.prog.info? 13).map (fun i => (i.zero, i.size, i.bytes)) = some (some (.agg #[.string ByteArray.empty, .int .u64 0]), 2, 24) := by kernel_rfl
theorem ag_Stmsgstring_addruintptr_ : Agg Try.prog 13 2 := ⟨_, Try.underlying13, rfl, sz_Stmsgstring_addruintptr_⟩
theorem sz_Strootapi_Root_limitint_isbool_ : (Try.prog.info? 114).map (·.size) = some 67 := by kernel_rfl
theorem zi_Strootapi_Root_limitint_isbool_ : (Try.prog.info? 114).map (fun i => (i.zero, i.size)) = some (some (.agg #[.int .i64 0, .int .u8 0, .int .u8 0, .int .u8 0, .int .u8 0, .int .u8 0, .int .u8 0, .int .u8 0, .int .u8 0, .int .u8 0, .int .u8 0, .int .u8 0, .int .u8 0, .int .u8 0, .int .u8 0, .int .u8 0, .int .u8 0, .int .u8 0, .int .u8 0, .int .u8 0, .int .u8 0, .int .u8 0, .int .u8 0, .int .u8 0, .int .u8 0, .int .u8 0, .int .u8 0, .int .u8 0, .int .u8 0, .int .u8 0, .int .u8 0, .int .u8 0, .int .u8 0, .int .u8 0, .int .u8 0, .int .u8 0, .int .u8 0, .int .u8 0, .int .u8 0, .int .u8 0, .int .u8 0, .int .u8 0, .int .u8 0, .int .u8 0, .int .u8 0, .int .u8 0, .int .u8 0, .int .u8 0, .int .u8 0, .int .u8 0, .int .u8 0, .int .u8 0, .int .u8 0, .int .u8 0, .int .u8 0, .int .u8 0, .int .u8 0, .int .u8 0, .int .u8 0, .int .u8 0, .int .u8 0, .int .u8 0, .int .u8 0, .int .u8 0, .int .u8 0, .int .i64 0, .bool false]), 67) := by kernel_rfl
theorem zb_Strootapi_Root_limitint_isbool_ : (Try.prog.info? 114).map (fun i => (i.zero, i.size, i.bytes)) = some (some (.agg #[.int .i64 0, .int .u8 0, .int .u8 0, .int .u8 0, .int .u8 0, .int .u8 0, .int .u8 0, .int .u8 0, .int .u8 0, .int .u8 0, .int .u8 0, .int .u8 0, .int .u8 0, .int .u8 0, .int .u8 0, .int .u8 0, .int .u8 0, .int .u8 0, .int .u8 0, .int .u8 0, .int .u8 0, .int .u8 0, .int .u8 0, .int .u8 0, .int .u8 0, .int .u8 0, .int .u8 0, .int .u8 0, .int .u8 0, .int .u8 0, .int .u8 0, .int .u8 0, .int .u8 0, .int .u8 0, .int .u8 0, .int .u8 0, .int .u8 0, .int .u8 0, .int .u8 0, .int .u8 0, .int .u8 0, .int .u8 0, .int .u8 0, .int .u8 0, .int .u8 0, .int .u8 0, .int .u8 0, .int .u8 0, .int .u8 0, .int .u8 0, .int .u8 0, .int .u8 0, .int .u8 0, .int .u8 0, .int .u8 0, .int .u8 0, .int .u8 0, .int .u8 0, .int .u8 0, .int .u8 0, .int .u8 0, .int .u8 0, .int .u8 0, .int .u8 0, .int .u8 0, .int .i64 0, .bool false]), 67, 88) := by kernel_rfl
theorem ag_Strootapi_Root_limitint_isbool_ : Agg Try.prog 114 67 := ⟨_, Try.underlying114, rfl, sz_Strootapi_Root_limitint_isbool_⟩
theorem sz_SttypPabi_Type_ : (Try.prog.info? 18).map (·.size) = some 1 := by kernel_rfl
theorem zi_SttypPabi_Type_ : (Try.prog.info? 18).map (fun i => (i.zero, i.size)) = some (some (.agg #[.pointer none]), 1) := by kernel_rfl
theorem zb_SttypPabi_Type_ : (Try.prog.info? 18).map (fun i => (i.zero, i.size, i.bytes)) = some (some (.agg #[.pointer none]), 1, 8) := by kernel_rfl
theorem ag_SttypPabi_Type_ : Agg Try.prog 18 1 := ⟨_, Try.underlying18, rfl, sz_SttypPabi_Type_⟩
theorem sz_Stwrongapi_Errno_ : (Try.prog.info? 116).map (·.size) = some 1 := by kernel_rfl
theorem zi_Stwrongapi_Errno_ : (Try.prog.info? 116).map (fun i => (i.zero, i.size)) = some (some (.agg #[.int .i64 0]), 1) := by kernel_rfl
theorem zb_Stwrongapi_Errno_ : (Try.prog.info? 116).map (fun i => (i.zero, i.size, i.bytes)) = some (some (.agg #[.int .i64 0]), 1, 8) := by kernel_rfl
theorem ag_Stwrongapi_Errno_ : Agg Try.prog 116 1 := ⟨_, Try.underlying116, rfl, sz_Stwrongapi_Errno_⟩
theorem sz_Stxint64_yint_signedbool_codeabi_BoundsErrorCode_ : (Try.prog.info? 7).map (·.size) = some 4 := by kernel_rfl
theorem zi_Stxint64_yint_signedbool_codeabi_BoundsErrorCode_ : (Try.prog.info? 7).map (fun i => (i.zero, i.size)) = some (some (.agg #[.int .i64 0, .int .i64 0, .bool false, .int .u8 0]), 4) := by kernel_rfl
theorem zb_Stxint64_yint_signedbool_codeabi_BoundsErrorCode_ : (Try.prog.info? 7).map (fun i => (i.zero, i.size, i.bytes)) = some (some (.agg #[.int .i64 0, .int .i64 0, .bool false, .int .u8 0]), 4, 24) := by kernel_rfl
theorem ag_Stxint64_yint_signedbool_codeabi_BoundsErrorCode_ : Agg Try.prog 7 4 := ⟨_, Try.underlying7, rfl, sz_Stxint64_yint_signedbool_codeabi_BoundsErrorCode_⟩
theorem sz_term_Store : (Try.prog.info? 138).map (·.size) = some 3 := by kernel_rfl
theorem zi_term_Store : (Try.prog.info? 138).map (fun i => (i.zero, i.size)) = some (some (.agg #[.slice none 0 0, .map none, .map none]), 3) := by kernel_rfl
theorem zb_term_Store : (Try.prog.info? 138).map (fun i => (i.zero, i.size, i.bytes)) = some (some (.agg #[.slice none 0 0, .map none, .map none]), 3, 40) := by kernel_rfl
theorem ag_term_Store : Agg Try.prog 138 3 := ⟨_, Try.underlying138, rfl, sz_term_Store⟩
theorem sz_uint : (Try.prog.info? 111).map (·.size) = some 1 := by kernel_rfl
theorem zi_uint : (Try.prog.info? 111).map (fun i => (i.zero, i.size)) = some (some (.int .u64 0), 1) := by kernel_rfl
theorem zb_uint : (Try.prog.info? 111).map (fun i => (i.zero, i.size, i.bytes)) = some (some (.int .u64 0), 1, 8) := by kernel_rfl
theorem sz_uint32 : (Try.prog.info? 22).map (·.size) = some 1 := by kernel_rfl
theorem zi_uint32 : (Try.prog.info? 22).map (fun i => (i.zero, i.size)) = some (some (.int .u32 0), 1) := by kernel_rfl
theorem zb_uint32 : (Try.prog.info? 22).map (fun i => (i.zero, i.size, i.bytes)) = some (some (.int .u32 0), 1, 4) := by kernel_rfl
theorem sz_uint64 : (Try.prog.info? 41).map (·.size) = some 1 := by kernel_rfl
theorem zi_uint64 : (Try.prog.info? 41).map (fun i => (i.zero, i.size)) = some (some (.int .u64 0), 1) := by kernel_rfl
theorem zb_uint64 : (Try.prog.info? 41).map (fun i => (i.zero, i.size, i.bytes)) = some (some (.int .u64 0), 1, 8) := by kernel_rfl
theorem sz_uint8 : (Try.prog.info? 5).map (·.size) = some 1 := by kernel_rfl
theorem zi_uint8 : (Try.prog.info? 5).map (fun i => (i.zero, i.size)) = some (some (.int .u8 0), 1) := by kernel_rfl
theorem zb_uint8 : (Try.prog.info? 5).map (fun i => (i.zero, i.size, i.bytes)) = some (some (.int .u8 0), 1, 1) := by kernel_rfl
theorem sz_uintptr : (Try.prog.info? 12).map (·.size) = some 1 := by kernel_rfl
theorem zi_uintptr : (Try.prog.info? 12).map (fun i => (i.zero, i.size)) = some (some (.int .u64 0), 1) := by kernel_rfl
theorem zb_uintptr : (Try.prog.info? 12).map (fun i => (i.zero, i.size, i.bytes)) = some (some (.int .u64 0), 1, 8) := by kernel_rfl
theorem sz_unsafe_Pointer : (Try.prog.info? 160).map (·.size) = some 1 := by kernel_rfl
theorem zi_unsafe_Pointer : (Try.prog.info? 160).map (fun i => (i.zero, i.size)) = some (some (.pointer none), 1) := by kernel_rfl
theorem zb_unsafe_Pointer : (Try.prog.info? 160).map (fun i => (i.zero, i.size, i.bytes)) = some (some (.pointer none), 1, 8) := by kernel_rfl
end Go.Proofs.Ytdahdlidpplllaa
