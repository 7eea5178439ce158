/- Facts on types: how many cells, the zero value. -/
import Derived.Test.YthaakmdafnjkpaaInt
namespace Go.Proofs.Ythaakmdafnjkpaa
open Go.RowKit
theorem sz_PA64_uint32 : (Try.prog.info? 191).map (·.size) = some 1 := by kernel_rfl
theorem zi_PA64_uint32 : (Try.prog.info? 191).map (fun i => (i.zero, i.size)) = some (some (.pointer none), 1) := by kernel_rfl
theorem zb_PA64_uint32 : (Try.prog.info? 191).map (fun i => (i.zero, i.size, i.bytes)) = some (some (.pointer none), 1, 8) := by kernel_rfl
theorem sz_Pabi_Type : (Try.prog.info? 17).map (·.size) = some 1 := by kernel_rfl
theorem zi_Pabi_Type : (Try.prog.info? 17).map (fun i => (i.zero, i.size)) = some (some (.pointer none), 1) := by kernel_rfl
theorem zb_Pabi_Type : (Try.prog.info? 17).map (fun i => (i.zero, i.size, i.bytes)) = some (some (.pointer none), 1, 8) := by kernel_rfl
theorem sz_Pchatelaineref12_Reader : (Try.prog.info? 128).map (·.size) = some 1 := by kernel_rfl
theorem zi_Pchatelaineref12_Reader : (Try.prog.info? 128).map (fun i => (i.zero, i.size)) = some (some (.pointer none), 1) := by kernel_rfl
theorem zb_Pchatelaineref12_Reader : (Try.prog.info? 128).map (fun i => (i.zero, i.size, i.bytes)) = some (some (.pointer none), 1, 8) := by kernel_rfl
theorem sz_Pchatelaineref12_Writer : (Try.prog.info? 120).map (·.size) = some 1 := by kernel_rfl
theorem zi_Pchatelaineref12_Writer : (Try.prog.info? 120).map (fun i => (i.zero, i.size)) = some (some (.pointer none), 1) := by kernel_rfl
theorem zb_Pchatelaineref12_Writer : (Try.prog.info? 120).map (fun i => (i.zero, i.size, i.bytes)) = some (some (.pointer none), 1, 8) := by kernel_rfl
theorem sz_Pchatelaineref30_Model : (Try.prog.info? 97).map (·.size) = some 1 := by kernel_rfl
theorem zi_Pchatelaineref30_Model : (Try.prog.info? 97).map (fun i => (i.zero, i.size)) = some (some (.pointer none), 1) := by kernel_rfl
theorem zb_Pchatelaineref30_Model : (Try.prog.info? 97).map (fun i => (i.zero, i.size, i.bytes)) = some (some (.pointer none), 1, 8) := by kernel_rfl
theorem sz_Pchatelaineref43_Lot : (Try.prog.info? 51).map (·.size) = some 1 := by kernel_rfl
theorem zi_Pchatelaineref43_Lot : (Try.prog.info? 51).map (fun i => (i.zero, i.size)) = some (some (.pointer none), 1) := by kernel_rfl
theorem zb_Pchatelaineref43_Lot : (Try.prog.info? 51).map (fun i => (i.zero, i.size, i.bytes)) = some (some (.pointer none), 1, 8) := by kernel_rfl
theorem sz_Pfield_Reader : (Try.prog.info? 124).map (·.size) = some 1 := by kernel_rfl
theorem zi_Pfield_Reader : (Try.prog.info? 124).map (fun i => (i.zero, i.size)) = some (some (.pointer none), 1) := by kernel_rfl
theorem zb_Pfield_Reader : (Try.prog.info? 124).map (fun i => (i.zero, i.size, i.bytes)) = some (some (.pointer none), 1, 8) := by kernel_rfl
theorem sz_Pfield_Writer : (Try.prog.info? 173).map (·.size) = some 1 := by kernel_rfl
theorem zi_Pfield_Writer : (Try.prog.info? 173).map (fun i => (i.zero, i.size)) = some (some (.pointer none), 1) := by kernel_rfl
theorem zb_Pfield_Writer : (Try.prog.info? 173).map (fun i => (i.zero, i.size, i.bytes)) = some (some (.pointer none), 1, 8) := by kernel_rfl
theorem sz_Pfield_state : (Try.prog.info? 212).map (·.size) = some 1 := by kernel_rfl
theorem zi_Pfield_state : (Try.prog.info? 212).map (fun i => (i.zero, i.size)) = some (some (.pointer none), 1) := by kernel_rfl
theorem zb_Pfield_state : (Try.prog.info? 212).map (fun i => (i.zero, i.size, i.bytes)) = some (some (.pointer none), 1, 8) := by kernel_rfl
theorem sz_Pint : (Try.prog.info? 153).map (·.size) = some 1 := by kernel_rfl
theorem zi_Pint : (Try.prog.info? 153).map (fun i => (i.zero, i.size)) = some (some (.pointer none), 1) := by kernel_rfl
theorem zb_Pint : (Try.prog.info? 153).map (fun i => (i.zero, i.size, i.bytes)) = some (some (.pointer none), 1, 8) := by kernel_rfl
theorem sz_Plot_Lot : (Try.prog.info? 47).map (·.size) = some 1 := by kernel_rfl
theorem zi_Plot_Lot : (Try.prog.info? 47).map (fun i => (i.zero, i.size)) = some (some (.pointer none), 1) := by kernel_rfl
theorem zb_Plot_Lot : (Try.prog.info? 47).map (fun i => (i.zero, i.size, i.bytes)) = some (some (.pointer none), 1, 8) := by kernel_rfl
theorem sz_Pmodel_Model : (Try.prog.info? 69).map (·.size) = some 1 := by kernel_rfl
theorem zi_Pmodel_Model : (Try.prog.info? 69).map (fun i => (i.zero, i.size)) = some (some (.pointer none), 1) := by kernel_rfl
theorem zb_Pmodel_Model : (Try.prog.info? 69).map (fun i => (i.zero, i.size, i.bytes)) = some (some (.pointer none), 1, 8) := by kernel_rfl
theorem sz_Pruntime_PanicNilError : (Try.prog.info? 16).map (·.size) = some 1 := by kernel_rfl
theorem zi_Pruntime_PanicNilError : (Try.prog.info? 16).map (fun i => (i.zero, i.size)) = some (some (.pointer none), 1) := by kernel_rfl
theorem zb_Pruntime_PanicNilError : (Try.prog.info? 16).map (fun i => (i.zero, i.size, i.bytes)) = some (some (.pointer none), 1, 8) := by kernel_rfl
theorem sz_Pruntime_TypeAssertionError : (Try.prog.info? 15).map (·.size) = some 1 := by kernel_rfl
theorem zi_Pruntime_TypeAssertionError : (Try.prog.info? 15).map (fun i => (i.zero, i.size)) = some (some (.pointer none), 1) := by kernel_rfl
theorem zb_Pruntime_TypeAssertionError : (Try.prog.info? 15).map (fun i => (i.zero, i.size, i.bytes)) = some (some (.pointer none), 1, 8) := by kernel_rfl
theorem sz_Pslices_xorshift : (Try.prog.info? 243).map (·.size) = some 1 := by kernel_rfl
theorem zi_Pslices_xorshift : (Try.prog.info? 243).map (fun i => (i.zero, i.size)) = some (some (.pointer none), 1) := by kernel_rfl
theorem zb_Pslices_xorshift : (Try.prog.info? 243).map (fun i => (i.zero, i.size, i.bytes)) = some (some (.pointer none), 1, 8) := by kernel_rfl
theorem sz_Puint8 : (Try.prog.info? 254).map (·.size) = some 1 := by kernel_rfl
theorem zi_Puint8 : (Try.prog.info? 254).map (fun i => (i.zero, i.size)) = some (some (.pointer none), 1) := by kernel_rfl
theorem zb_Puint8 : (Try.prog.info? 254).map (fun i => (i.zero, i.size, i.bytes)) = some (some (.pointer none), 1, 8) := by kernel_rfl
theorem sz_A0_Pruntime_PanicNilError : (Try.prog.info? 248).map (·.size) = some 0 := by kernel_rfl
theorem zi_A0_Pruntime_PanicNilError : (Try.prog.info? 248).map (fun i => (i.zero, i.size)) = some (some (.agg #[]), 0) := by kernel_rfl
theorem zb_A0_Pruntime_PanicNilError : (Try.prog.info? 248).map (fun i => (i.zero, i.size, i.bytes)) = some (some (.agg #[]), 0, 0) := by kernel_rfl
theorem ag_A0_Pruntime_PanicNilError : Agg Try.prog 248 0 := ⟨_, Try.underlying248, rfl, sz_A0_Pruntime_PanicNilError⟩
theorem sz_A32_uint8 : (Try.prog.info? 133).map (·.size) = some 32 := by kernel_rfl
theorem zi_A32_uint8 : (Try.prog.info? 133).map (fun i => (i.zero, i.size)) = some (some (.agg (List.replicate 32 (.int .u8 0)).toArray), 32) := by kernel_rfl
theorem zb_A32_uint8 : (Try.prog.info? 133).map (fun i => (i.zero, i.size, i.bytes)) = some (some (.agg (List.replicate 32 (.int .u8 0)).toArray), 32, 32) := by kernel_rfl
theorem ag_A32_uint8 : Agg Try.prog 133 32 := ⟨_, Try.underlying133, rfl, sz_A32_uint8⟩
theorem sz_A3_int : (Try.prog.info? 140).map (·.size) = some 3 := by kernel_rfl
theorem zi_A3_int : (Try.prog.info? 140).map (fun i => (i.zero, i.size)) = some (some (.agg #[.int .i64 0, .int .i64 0, .int .i64 0]), 3) := by kernel_rfl
theorem zb_A3_int : (Try.prog.info? 140).map (fun i => (i.zero, i.size, i.bytes)) = some (some (.agg #[.int .i64 0, .int .i64 0, .int .i64 0]), 3, 24) := by kernel_rfl
theorem ag_A3_int : Agg Try.prog 140 3 := ⟨_, Try.underlying140, rfl, sz_A3_int⟩
theorem sz_A4_uint : (Try.prog.info? 218).map (·.size) = some 4 := by kernel_rfl
theorem zi_A4_uint : (Try.prog.info? 218).map (fun i => (i.zero, i.size)) = some (some (.agg #[.int .u64 0, .int .u64 0, .int .u64 0, .int .u64 0]), 4) := by kernel_rfl
theorem zb_A4_uint : (Try.prog.info? 218).map (fun i => (i.zero, i.size, i.bytes)) = some (some (.agg #[.int .u64 0, .int .u64 0, .int .u64 0, .int .u64 0]), 4, 32) := by kernel_rfl
theorem ag_A4_uint : Agg Try.prog 218 4 := ⟨_, Try.underlying218, rfl, sz_A4_uint⟩
theorem sz_A4_uint8 : (Try.prog.info? 217).map (·.size) = some 4 := by kernel_rfl
theorem zi_A4_uint8 : (Try.prog.info? 217).map (fun i => (i.zero, i.size)) = some (some (.agg #[.int .u8 0, .int .u8 0, .int .u8 0, .int .u8 0]), 4) := by kernel_rfl
theorem zb_A4_uint8 : (Try.prog.info? 217).map (fun i => (i.zero, i.size, i.bytes)) = some (some (.agg #[.int .u8 0, .int .u8 0, .int .u8 0, .int .u8 0]), 4, 4) := by kernel_rfl
theorem ag_A4_uint8 : Agg Try.prog 217 4 := ⟨_, Try.underlying217, rfl, sz_A4_uint8⟩
theorem sz_A5_Pint : (Try.prog.info? 154).map (·.size) = some 5 := by kernel_rfl
theorem zi_A5_Pint : (Try.prog.info? 154).map (fun i => (i.zero, i.size)) = some (some (.agg #[.pointer none, .pointer none, .pointer none, .pointer none, .pointer none]), 5) := by kernel_rfl
theorem zb_A5_Pint : (Try.prog.info? 154).map (fun i => (i.zero, i.size, i.bytes)) = some (some (.agg #[.pointer none, .pointer none, .pointer none, .pointer none, .pointer none]), 5, 40) := by kernel_rfl
theorem ag_A5_Pint : Agg Try.prog 154 5 := ⟨_, Try.underlying154, rfl, sz_A5_Pint⟩
theorem sz_A5_int : (Try.prog.info? 222).map (·.size) = some 5 := by kernel_rfl
theorem zi_A5_int : (Try.prog.info? 222).map (fun i => (i.zero, i.size)) = some (some (.agg #[.int .i64 0, .int .i64 0, .int .i64 0, .int .i64 0, .int .i64 0]), 5) := by kernel_rfl
theorem zb_A5_int : (Try.prog.info? 222).map (fun i => (i.zero, i.size, i.bytes)) = some (some (.agg #[.int .i64 0, .int .i64 0, .int .i64 0, .int .i64 0, .int .i64 0]), 5, 40) := by kernel_rfl
theorem ag_A5_int : Agg Try.prog 222 5 := ⟨_, Try.underlying222, rfl, sz_A5_int⟩
theorem sz_A64_uint32 : (Try.prog.info? 186).map (·.size) = some 64 := by kernel_rfl
theorem zi_A64_uint32 : (Try.prog.info? 186).map (fun i => (i.zero, i.size)) = some (some (.agg (List.replicate 64 (.int .u32 0)).toArray), 64) := by kernel_rfl
theorem zb_A64_uint32 : (Try.prog.info? 186).map (fun i => (i.zero, i.size, i.bytes)) = some (some (.agg (List.replicate 64 (.int .u32 0)).toArray), 64, 256) := by kernel_rfl
theorem ag_A64_uint32 : Agg Try.prog 186 64 := ⟨_, Try.underlying186, rfl, sz_A64_uint32⟩
theorem sz_A8_uint32 : (Try.prog.info? 188).map (·.size) = some 8 := by kernel_rfl
theorem zi_A8_uint32 : (Try.prog.info? 188).map (fun i => (i.zero, i.size)) = some (some (.agg #[.int .u32 0, .int .u32 0, .int .u32 0, .int .u32 0, .int .u32 0, .int .u32 0, .int .u32 0, .int .u32 0]), 8) := by kernel_rfl
theorem zb_A8_uint32 : (Try.prog.info? 188).map (fun i => (i.zero, i.size, i.bytes)) = some (some (.agg #[.int .u32 0, .int .u32 0, .int .u32 0, .int .u32 0, .int .u32 0, .int .u32 0, .int .u32 0, .int .u32 0]), 8, 32) := by kernel_rfl
theorem ag_A8_uint32 : Agg Try.prog 188 8 := ⟨_, Try.underlying188, rfl, sz_A8_uint32⟩
theorem sz_SSuint8 : (Try.prog.info? 148).map (·.size) = some 1 := by kernel_rfl
theorem zi_SSuint8 : (Try.prog.info? 148).map (fun i => (i.zero, i.size)) = some (some (.slice none 0 0), 1) := by kernel_rfl
theorem zb_SSuint8 : (Try.prog.info? 148).map (fun i => (i.zero, i.size, i.bytes)) = some (some (.slice none 0 0), 1, 24) := by kernel_rfl
theorem sz_Sapi_Event : (Try.prog.info? 82).map (·.size) = some 1 := by kernel_rfl
theorem zi_Sapi_Event : (Try.prog.info? 82).map (fun i => (i.zero, i.size)) = some (some (.slice none 0 0), 1) := by kernel_rfl
theorem zb_Sapi_Event : (Try.prog.info? 82).map (fun i => (i.zero, i.size, i.bytes)) = some (some (.slice none 0 0), 1, 24) := by kernel_rfl
theorem sz_Sapi_Op : (Try.prog.info? 58).map (·.size) = some 1 := by kernel_rfl
theorem zi_Sapi_Op : (Try.prog.info? 58).map (fun i => (i.zero, i.size)) = some (some (.slice none 0 0), 1) := by kernel_rfl
theorem zb_Sapi_Op : (Try.prog.info? 58).map (fun i => (i.zero, i.size, i.bytes)) = some (some (.slice none 0 0), 1, 24) := by kernel_rfl
theorem sz_Sapi_Record : (Try.prog.info? 101).map (·.size) = some 1 := by kernel_rfl
theorem zi_Sapi_Record : (Try.prog.info? 101).map (fun i => (i.zero, i.size)) = some (some (.slice none 0 0), 1) := by kernel_rfl
theorem zb_Sapi_Record : (Try.prog.info? 101).map (fun i => (i.zero, i.size, i.bytes)) = some (some (.slice none 0 0), 1, 24) := by kernel_rfl
theorem sz_Schatelaineref30_Sector : (Try.prog.info? 100).map (·.size) = some 1 := by kernel_rfl
theorem zi_Schatelaineref30_Sector : (Try.prog.info? 100).map (fun i => (i.zero, i.size)) = some (some (.slice none 0 0), 1) := by kernel_rfl
theorem zb_Schatelaineref30_Sector : (Try.prog.info? 100).map (fun i => (i.zero, i.size, i.bytes)) = some (some (.slice none 0 0), 1, 24) := by kernel_rfl
theorem sz_Schatelaineref30_Space : (Try.prog.info? 99).map (·.size) = some 1 := by kernel_rfl
theorem zi_Schatelaineref30_Space : (Try.prog.info? 99).map (fun i => (i.zero, i.size)) = some (some (.slice none 0 0), 1) := by kernel_rfl
theorem zb_Schatelaineref30_Space : (Try.prog.info? 99).map (fun i => (i.zero, i.size, i.bytes)) = some (some (.slice none 0 0), 1, 24) := by kernel_rfl
theorem sz_Schatelaineref30_Tenant : (Try.prog.info? 98).map (·.size) = some 1 := by kernel_rfl
theorem zi_Schatelaineref30_Tenant : (Try.prog.info? 98).map (fun i => (i.zero, i.size)) = some (some (.slice none 0 0), 1) := by kernel_rfl
theorem zb_Schatelaineref30_Tenant : (Try.prog.info? 98).map (fun i => (i.zero, i.size, i.bytes)) = some (some (.slice none 0 0), 1, 24) := by kernel_rfl
theorem sz_Sint : (Try.prog.info? 44).map (·.size) = some 1 := by kernel_rfl
theorem zi_Sint : (Try.prog.info? 44).map (fun i => (i.zero, i.size)) = some (some (.slice none 0 0), 1) := by kernel_rfl
theorem zb_Sint : (Try.prog.info? 44).map (fun i => (i.zero, i.size, i.bytes)) = some (some (.slice none 0 0), 1, 24) := by kernel_rfl
theorem sz_Suint32 : (Try.prog.info? 195).map (·.size) = some 1 := by kernel_rfl
theorem zi_Suint32 : (Try.prog.info? 195).map (fun i => (i.zero, i.size)) = some (some (.slice none 0 0), 1) := by kernel_rfl
theorem zb_Suint32 : (Try.prog.info? 195).map (fun i => (i.zero, i.size, i.bytes)) = some (some (.slice none 0 0), 1, 24) := by kernel_rfl
theorem sz_Suint8 : (Try.prog.info? 22).map (·.size) = some 1 := by kernel_rfl
theorem zi_Suint8 : (Try.prog.info? 22).map (fun i => (i.zero, i.size)) = some (some (.slice none 0 0), 1) := by kernel_rfl
theorem zb_Suint8 : (Try.prog.info? 22).map (fun i => (i.zero, i.size, i.bytes)) = some (some (.slice none 0 0), 1, 24) := by kernel_rfl
theorem sz_abi_BoundsErrorCode : (Try.prog.info? 6).map (·.size) = some 1 := by kernel_rfl
theorem zi_abi_BoundsErrorCode : (Try.prog.info? 6).map (fun i => (i.zero, i.size)) = some (some (.int .u8 0), 1) := by kernel_rfl
theorem zb_abi_BoundsErrorCode : (Try.prog.info? 6).map (fun i => (i.zero, i.size, i.bytes)) = some (some (.int .u8 0), 1, 1) := by kernel_rfl
theorem sz_abi_Kind : (Try.prog.info? 252).map (·.size) = some 1 := by kernel_rfl
theorem zi_abi_Kind : (Try.prog.info? 252).map (fun i => (i.zero, i.size)) = some (some (.int .u8 0), 1) := by kernel_rfl
theorem zb_abi_Kind : (Try.prog.info? 252).map (fun i => (i.zero, i.size, i.bytes)) = some (some (.int .u8 0), 1, 1) := by kernel_rfl
theorem sz_abi_NameOff : (Try.prog.info? 255).map (·.size) = some 1 := by kernel_rfl
theorem zi_abi_NameOff : (Try.prog.info? 255).map (fun i => (i.zero, i.size)) = some (some (.int .i32 0), 1) := by kernel_rfl
theorem zb_abi_NameOff : (Try.prog.info? 255).map (fun i => (i.zero, i.size, i.bytes)) = some (some (.int .i32 0), 1, 4) := by kernel_rfl
theorem sz_abi_TFlag : (Try.prog.info? 251).map (·.size) = some 1 := by kernel_rfl
theorem zi_abi_TFlag : (Try.prog.info? 251).map (fun i => (i.zero, i.size)) = some (some (.int .u8 0), 1) := by kernel_rfl
theorem zb_abi_TFlag : (Try.prog.info? 251).map (fun i => (i.zero, i.size, i.bytes)) = some (some (.int .u8 0), 1, 1) := by kernel_rfl
theorem sz_abi_Type : (Try.prog.info? 258).map (·.size) = some 11 := by kernel_rfl
theorem zi_abi_Type : (Try.prog.info? 258).map (fun i => (i.zero, i.size)) = some (some (.agg #[.int .u64 0, .int .u64 0, .int .u32 0, .int .u8 0, .int .u8 0, .int .u8 0, .int .u8 0, .nilFunc, .pointer none, .int .i32 0, .int .i32 0]), 11) := by kernel_rfl
theorem zb_abi_Type : (Try.prog.info? 258).map (fun i => (i.zero, i.size, i.bytes)) = some (some (.agg #[.int .u64 0, .int .u64 0, .int .u32 0, .int .u8 0, .int .u8 0, .int .u8 0, .int .u8 0, .nilFunc, .pointer none, .int .i32 0, .int .i32 0]), 11, 48) := by kernel_rfl
theorem ag_abi_Type : Agg Try.prog 258 11 := ⟨_, Try.underlying258, rfl, sz_abi_Type⟩
theorem sz_abi_TypeOff : (Try.prog.info? 256).map (·.size) = some 1 := by kernel_rfl
theorem zi_abi_TypeOff : (Try.prog.info? 256).map (fun i => (i.zero, i.size)) = some (some (.int .i32 0), 1) := by kernel_rfl
theorem zb_abi_TypeOff : (Try.prog.info? 256).map (fun i => (i.zero, i.size, i.bytes)) = some (some (.int .i32 0), 1, 4) := by kernel_rfl
theorem sz_api_Errno : (Try.prog.info? 26).map (·.size) = some 1 := by kernel_rfl
theorem zi_api_Errno : (Try.prog.info? 26).map (fun i => (i.zero, i.size)) = some (some (.int .i64 0), 1) := by kernel_rfl
theorem zb_api_Errno : (Try.prog.info? 26).map (fun i => (i.zero, i.size, i.bytes)) = some (some (.int .i64 0), 1, 8) := by kernel_rfl
theorem sz_api_Event : (Try.prog.info? 77).map (·.size) = some 10 := by kernel_rfl
theorem zi_api_Event : (Try.prog.info? 77).map (fun i => (i.zero, i.size)) = some (some (.agg #[.int .i64 0, .int .i64 0, .int .i64 0, .int .i64 0, .int .i64 0, .slice none 0 0, .slice none 0 0, .int .i64 0, .int .i64 0, .slice none 0 0]), 10) := by kernel_rfl
theorem zb_api_Event : (Try.prog.info? 77).map (fun i => (i.zero, i.size, i.bytes)) = some (some (.agg #[.int .i64 0, .int .i64 0, .int .i64 0, .int .i64 0, .int .i64 0, .slice none 0 0, .slice none 0 0, .int .i64 0, .int .i64 0, .slice none 0 0]), 10, 128) := by kernel_rfl
theorem ag_api_Event : Agg Try.prog 77 10 := ⟨_, Try.underlying77, rfl, sz_api_Event⟩
theorem sz_api_Geom : (Try.prog.info? 62).map (·.size) = some 4 := by kernel_rfl
theorem zi_api_Geom : (Try.prog.info? 62).map (fun i => (i.zero, i.size)) = some (some (.agg #[.int .i64 0, .int .i64 0, .int .i64 0, .int .i64 0]), 4) := by kernel_rfl
theorem zb_api_Geom : (Try.prog.info? 62).map (fun i => (i.zero, i.size, i.bytes)) = some (some (.agg #[.int .i64 0, .int .i64 0, .int .i64 0, .int .i64 0]), 4, 32) := by kernel_rfl
theorem ag_api_Geom : Agg Try.prog 62 4 := ⟨_, Try.underlying62, rfl, sz_api_Geom⟩
theorem sz_api_Load : (Try.prog.info? 46).map (·.size) = some 6 := by kernel_rfl
theorem zi_api_Load : (Try.prog.info? 46).map (fun i => (i.zero, i.size)) = some (some (.agg #[.int .i64 0, .int .i64 0, .int .i64 0, .int .i64 0, .int .i64 0, .int .i64 0]), 6) := by kernel_rfl
theorem zb_api_Load : (Try.prog.info? 46).map (fun i => (i.zero, i.size, i.bytes)) = some (some (.agg #[.int .i64 0, .int .i64 0, .int .i64 0, .int .i64 0, .int .i64 0, .int .i64 0]), 6, 48) := by kernel_rfl
theorem ag_api_Load : Agg Try.prog 46 6 := ⟨_, Try.underlying46, rfl, sz_api_Load⟩
theorem sz_api_Op : (Try.prog.info? 24).map (·.size) = some 7 := by kernel_rfl
theorem zi_api_Op : (Try.prog.info? 24).map (fun i => (i.zero, i.size)) = some (some (.agg #[.int .i64 0, .int .i64 0, .int .i64 0, .int .i64 0, .int .i64 0, .slice none 0 0, .slice none 0 0]), 7) := by kernel_rfl
theorem zb_api_Op : (Try.prog.info? 24).map (fun i => (i.zero, i.size, i.bytes)) = some (some (.agg #[.int .i64 0, .int .i64 0, .int .i64 0, .int .i64 0, .int .i64 0, .slice none 0 0, .slice none 0 0]), 7, 88) := by kernel_rfl
theorem ag_api_Op : Agg Try.prog 24 7 := ⟨_, Try.underlying24, rfl, sz_api_Op⟩
theorem sz_api_Record : (Try.prog.info? 31).map (·.size) = some 6 := by kernel_rfl
theorem zi_api_Record : (Try.prog.info? 31).map (fun i => (i.zero, i.size)) = some (some (.agg #[.int .i64 0, .int .i64 0, .int .i64 0, .int .i64 0, .int .i64 0, .int .i64 0]), 6) := by kernel_rfl
theorem zb_api_Record : (Try.prog.info? 31).map (fun i => (i.zero, i.size, i.bytes)) = some (some (.agg #[.int .i64 0, .int .i64 0, .int .i64 0, .int .i64 0, .int .i64 0, .int .i64 0]), 6, 48) := by kernel_rfl
theorem ag_api_Record : Agg Try.prog 31 6 := ⟨_, Try.underlying31, rfl, sz_api_Record⟩
theorem sz_api_Reply : (Try.prog.info? 73).map (·.size) = some 2 := by kernel_rfl
theorem zi_api_Reply : (Try.prog.info? 73).map (fun i => (i.zero, i.size)) = some (some (.agg #[.int .i64 0, .slice none 0 0]), 2) := by kernel_rfl
theorem zb_api_Reply : (Try.prog.info? 73).map (fun i => (i.zero, i.size, i.bytes)) = some (some (.agg #[.int .i64 0, .slice none 0 0]), 2, 32) := by kernel_rfl
theorem ag_api_Reply : Agg Try.prog 73 2 := ⟨_, Try.underlying73, rfl, sz_api_Reply⟩
theorem sz_bool : (Try.prog.info? 4).map (·.size) = some 1 := by kernel_rfl
theorem zi_bool : (Try.prog.info? 4).map (fun i => (i.zero, i.size)) = some (some (.bool false), 1) := by kernel_rfl
theorem zb_bool : (Try.prog.info? 4).map (fun i => (i.zero, i.size, i.bytes)) = some (some (.bool false), 1, 1) := by kernel_rfl
theorem sz_chatelainelaw30_Case : (Try.prog.info? 91).map (·.size) = some 7 := by kernel_rfl
theorem zi_chatelainelaw30_Case : (Try.prog.info? 91).map (fun i => (i.zero, i.size)) = some (some (.agg #[.int .i64 0, .int .i64 0, .int .i64 0, .int .i64 0, .slice none 0 0, .int .i64 0, .int .i64 0]), 7) := by kernel_rfl
theorem zb_chatelainelaw30_Case : (Try.prog.info? 91).map (fun i => (i.zero, i.size, i.bytes)) = some (some (.agg #[.int .i64 0, .int .i64 0, .int .i64 0, .int .i64 0, .slice none 0 0, .int .i64 0, .int .i64 0]), 7, 72) := by kernel_rfl
theorem ag_chatelainelaw30_Case : Agg Try.prog 91 7 := ⟨_, Try.underlying91, rfl, sz_chatelainelaw30_Case⟩
theorem sz_chatelaineref12_Reader : (Try.prog.info? 129).map (·.size) = some 2 := by kernel_rfl
theorem zi_chatelaineref12_Reader : (Try.prog.info? 129).map (fun i => (i.zero, i.size)) = some (some (.agg #[.slice none 0 0, .int .i64 0]), 2) := by kernel_rfl
theorem zb_chatelaineref12_Reader : (Try.prog.info? 129).map (fun i => (i.zero, i.size, i.bytes)) = some (some (.agg #[.slice none 0 0, .int .i64 0]), 2, 32) := by kernel_rfl
theorem ag_chatelaineref12_Reader : Agg Try.prog 129 2 := ⟨_, Try.underlying129, rfl, sz_chatelaineref12_Reader⟩
theorem sz_chatelaineref12_Writer : (Try.prog.info? 122).map (·.size) = some 2 := by kernel_rfl
theorem zi_chatelaineref12_Writer : (Try.prog.info? 122).map (fun i => (i.zero, i.size)) = some (some (.agg #[.slice none 0 0, .int .i64 0]), 2) := by kernel_rfl
theorem zb_chatelaineref12_Writer : (Try.prog.info? 122).map (fun i => (i.zero, i.size, i.bytes)) = some (some (.agg #[.slice none 0 0, .int .i64 0]), 2, 32) := by kernel_rfl
theorem ag_chatelaineref12_Writer : Agg Try.prog 122 2 := ⟨_, Try.underlying122, rfl, sz_chatelaineref12_Writer⟩
theorem sz_chatelaineref30_Model : (Try.prog.info? 103).map (·.size) = some 11 := by kernel_rfl
theorem zi_chatelaineref30_Model : (Try.prog.info? 103).map (fun i => (i.zero, i.size)) = some (some (.agg #[.int .i64 0, .int .i64 0, .int .i64 0, .int .i64 0, .slice none 0 0, .int .i64 0, .int .i64 0, .slice none 0 0, .slice none 0 0, .slice none 0 0, .slice none 0 0]), 11) := by kernel_rfl
theorem zb_chatelaineref30_Model : (Try.prog.info? 103).map (fun i => (i.zero, i.size, i.bytes)) = some (some (.agg #[.int .i64 0, .int .i64 0, .int .i64 0, .int .i64 0, .slice none 0 0, .int .i64 0, .int .i64 0, .slice none 0 0, .slice none 0 0, .slice none 0 0, .slice none 0 0]), 11, 168) := by kernel_rfl
theorem ag_chatelaineref30_Model : Agg Try.prog 103 11 := ⟨_, Try.underlying103, rfl, sz_chatelaineref30_Model⟩
theorem sz_chatelaineref30_Sector : (Try.prog.info? 163).map (·.size) = some 3 := by kernel_rfl
theorem zi_chatelaineref30_Sector : (Try.prog.info? 163).map (fun i => (i.zero, i.size)) = some (some (.agg #[.int .i64 0, .int .i64 0, .slice none 0 0]), 3) := by kernel_rfl
theorem zb_chatelaineref30_Sector : (Try.prog.info? 163).map (fun i => (i.zero, i.size, i.bytes)) = some (some (.agg #[.int .i64 0, .int .i64 0, .slice none 0 0]), 3, 40) := by kernel_rfl
theorem ag_chatelaineref30_Sector : Agg Try.prog 163 3 := ⟨_, Try.underlying163, rfl, sz_chatelaineref30_Sector⟩
theorem sz_chatelaineref30_Space : (Try.prog.info? 160).map (·.size) = some 3 := by kernel_rfl
theorem zi_chatelaineref30_Space : (Try.prog.info? 160).map (fun i => (i.zero, i.size)) = some (some (.agg #[.int .i64 0, .int .i64 0, .int .i64 0]), 3) := by kernel_rfl
theorem zb_chatelaineref30_Space : (Try.prog.info? 160).map (fun i => (i.zero, i.size, i.bytes)) = some (some (.agg #[.int .i64 0, .int .i64 0, .int .i64 0]), 3, 24) := by kernel_rfl
theorem ag_chatelaineref30_Space : Agg Try.prog 160 3 := ⟨_, Try.underlying160, rfl, sz_chatelaineref30_Space⟩
theorem sz_chatelaineref30_Tenant : (Try.prog.info? 208).map (·.size) = some 3 := by kernel_rfl
theorem zi_chatelaineref30_Tenant : (Try.prog.info? 208).map (fun i => (i.zero, i.size)) = some (some (.agg #[.int .i64 0, .int .i64 0, .slice none 0 0]), 3) := by kernel_rfl
theorem zb_chatelaineref30_Tenant : (Try.prog.info? 208).map (fun i => (i.zero, i.size, i.bytes)) = some (some (.agg #[.int .i64 0, .int .i64 0, .slice none 0 0]), 3, 40) := by kernel_rfl
theorem ag_chatelaineref30_Tenant : Agg Try.prog 208 3 := ⟨_, Try.underlying208, rfl, sz_chatelaineref30_Tenant⟩
theorem sz_chatelaineref43_Lot : (Try.prog.info? 53).map (·.size) = some 2 := by kernel_rfl
theorem zi_chatelaineref43_Lot : (Try.prog.info? 53).map (fun i => (i.zero, i.size)) = some (some (.agg #[.slice none 0 0, .int .i64 0]), 2) := by kernel_rfl
theorem zb_chatelaineref43_Lot : (Try.prog.info? 53).map (fun i => (i.zero, i.size, i.bytes)) = some (some (.agg #[.slice none 0 0, .int .i64 0]), 2, 32) := by kernel_rfl
theorem ag_chatelaineref43_Lot : Agg Try.prog 53 2 := ⟨_, Try.underlying53, rfl, sz_chatelaineref43_Lot⟩
theorem sz_field_Reader : (Try.prog.info? 179).map (·.size) = some 3 := by kernel_rfl
theorem zi_field_Reader : (Try.prog.info? 179).map (fun i => (i.zero, i.size)) = some (some (.agg #[.int .i64 0, .slice none 0 0, .bool false]), 3) := by kernel_rfl
theorem zb_field_Reader : (Try.prog.info? 179).map (fun i => (i.zero, i.size, i.bytes)) = some (some (.agg #[.int .i64 0, .slice none 0 0, .bool false]), 3, 40) := by kernel_rfl
theorem ag_field_Reader : Agg Try.prog 179 3 := ⟨_, Try.underlying179, rfl, sz_field_Reader⟩
theorem sz_field_Writer : (Try.prog.info? 114).map (·.size) = some 2 := by kernel_rfl
theorem zi_field_Writer : (Try.prog.info? 114).map (fun i => (i.zero, i.size)) = some (some (.agg #[.int .i64 0, .slice none 0 0]), 2) := by kernel_rfl
theorem zb_field_Writer : (Try.prog.info? 114).map (fun i => (i.zero, i.size, i.bytes)) = some (some (.agg #[.int .i64 0, .slice none 0 0]), 2, 32) := by kernel_rfl
theorem ag_field_Writer : Agg Try.prog 114 2 := ⟨_, Try.underlying114, rfl, sz_field_Writer⟩
theorem sz_field_state : (Try.prog.info? 112).map (·.size) = some 1 := by kernel_rfl
theorem zi_field_state : (Try.prog.info? 112).map (fun i => (i.zero, i.size)) = some (some (.agg #[.int .i64 0]), 1) := by kernel_rfl
theorem zb_field_state : (Try.prog.info? 112).map (fun i => (i.zero, i.size, i.bytes)) = some (some (.agg #[.int .i64 0]), 1, 8) := by kernel_rfl
theorem ag_field_state : Agg Try.prog 112 1 := ⟨_, Try.underlying112, rfl, sz_field_state⟩
theorem sz_int : (Try.prog.info? 3).map (·.size) = some 1 := by kernel_rfl
theorem zi_int : (Try.prog.info? 3).map (fun i => (i.zero, i.size)) = some (some (.int .i64 0), 1) := by kernel_rfl
theorem zb_int : (Try.prog.info? 3).map (fun i => (i.zero, i.size, i.bytes)) = some (some (.int .i64 0), 1, 8) := by kernel_rfl
theorem sz_int32 : (Try.prog.info? 21).map (·.size) = some 1 := by kernel_rfl
theorem zi_int32 : (Try.prog.info? 21).map (fun i => (i.zero, i.size)) = some (some (.int .i32 0), 1) := by kernel_rfl
theorem zb_int32 : (Try.prog.info? 21).map (fun i => (i.zero, i.size, i.bytes)) = some (some (.int .i32 0), 1, 4) := by kernel_rfl
theorem sz_int64 : (Try.prog.info? 2).map (·.size) = some 1 := by kernel_rfl
theorem zi_int64 : (Try.prog.info? 2).map (fun i => (i.zero, i.size)) = some (some (.int .i64 0), 1) := by kernel_rfl
theorem zb_int64 : (Try.prog.info? 2).map (fun i => (i.zero, i.size, i.bytes)) = some (some (.int .i64 0), 1, 8) := by kernel_rfl
theorem sz_lot_Lot : (Try.prog.info? 132).map (·.size) = some 3 := by kernel_rfl
theorem zi_lot_Lot : (Try.prog.info? 132).map (fun i => (i.zero, i.size)) = some (some (.agg #[.slice none 0 0, .int .u64 0, .bool false]), 3) := by kernel_rfl
theorem zb_lot_Lot : (Try.prog.info? 132).map (fun i => (i.zero, i.size, i.bytes)) = some (some (.agg #[.slice none 0 0, .int .u64 0, .bool false]), 3, 40) := by kernel_rfl
theorem ag_lot_Lot : Agg Try.prog 132 3 := ⟨_, Try.underlying132, rfl, sz_lot_Lot⟩
theorem sz_M_int_model_space : (Try.prog.info? 144).map (·.size) = some 1 := by kernel_rfl
theorem zi_M_int_model_space : (Try.prog.info? 144).map (fun i => (i.zero, i.size)) = some (some (.map none), 1) := by kernel_rfl
theorem zb_M_int_model_space : (Try.prog.info? 144).map (fun i => (i.zero, i.size, i.bytes)) = some (some (.map none), 1, 8) := by kernel_rfl
theorem sz_M_int_model_tenant : (Try.prog.info? 143).map (·.size) = some 1 := by kernel_rfl
theorem zi_M_int_model_tenant : (Try.prog.info? 143).map (fun i => (i.zero, i.size)) = some (some (.map none), 1) := by kernel_rfl
theorem zb_M_int_model_tenant : (Try.prog.info? 143).map (fun i => (i.zero, i.size, i.bytes)) = some (some (.map none), 1, 8) := by kernel_rfl
theorem sz_maps_unhashableTypeError : (Try.prog.info? 19).map (·.size) = some 1 := by kernel_rfl
theorem zi_maps_unhashableTypeError : (Try.prog.info? 19).map (fun i => (i.zero, i.size)) = some (some (.agg #[.pointer none]), 1) := by kernel_rfl
theorem zb_maps_unhashableTypeError : (Try.prog.info? 19).map (fun i => (i.zero, i.size, i.bytes)) = some (some (.agg #[.pointer none]), 1, 8) := by kernel_rfl
theorem ag_maps_unhashableTypeError : Agg Try.prog 19 1 := ⟨_, Try.underlying19, rfl, sz_maps_unhashableTypeError⟩
theorem sz_model_Model : (Try.prog.info? 146).map (·.size) = some 10 := by kernel_rfl
theorem zi_model_Model : (Try.prog.info? 146).map (fun i => (i.zero, i.size)) = some (some (.agg #[.int .i64 0, .int .i64 0, .int .i64 0, .int .i64 0, .slice none 0 0, .int .i64 0, .int .i64 0, .map none, .map none, .slice none 0 0]), 10) := by kernel_rfl
theorem zb_model_Model : (Try.prog.info? 146).map (fun i => (i.zero, i.size, i.bytes)) = some (some (.agg #[.int .i64 0, .int .i64 0, .int .i64 0, .int .i64 0, .slice none 0 0, .int .i64 0, .int .i64 0, .map none, .map none, .slice none 0 0]), 10, 112) := by kernel_rfl
theorem ag_model_Model : Agg Try.prog 146 10 := ⟨_, Try.underlying146, rfl, sz_model_Model⟩
theorem sz_model_space : (Try.prog.info? 150).map (·.size) = some 2 := by kernel_rfl
theorem zi_model_space : (Try.prog.info? 150).map (fun i => (i.zero, i.size)) = some (some (.agg #[.int .i64 0, .slice none 0 0]), 2) := by kernel_rfl
theorem zb_model_space : (Try.prog.info? 150).map (fun i => (i.zero, i.size, i.bytes)) = some (some (.agg #[.int .i64 0, .slice none 0 0]), 2, 32) := by kernel_rfl
theorem ag_model_space : Agg Try.prog 150 2 := ⟨_, Try.underlying150, rfl, sz_model_space⟩
theorem sz_model_tenant : (Try.prog.info? 166).map (·.size) = some 2 := by kernel_rfl
theorem zi_model_tenant : (Try.prog.info? 166).map (fun i => (i.zero, i.size)) = some (some (.agg #[.int .i64 0, .slice none 0 0]), 2) := by kernel_rfl
theorem zb_model_tenant : (Try.prog.info? 166).map (fun i => (i.zero, i.size, i.bytes)) = some (some (.agg #[.int .i64 0, .slice none 0 0]), 2, 32) := by kernel_rfl
theorem ag_model_tenant : Agg Try.prog 166 2 := ⟨_, Try.underlying166, rfl, sz_model_tenant⟩
theorem sz_runtime_PanicNilError : (Try.prog.info? 250).map (·.size) = some 0 := by kernel_rfl
theorem zi_runtime_PanicNilError : (Try.prog.info? 250).map (fun i => (i.zero, i.size)) = some (some (.agg #[]), 0) := by kernel_rfl
theorem zb_runtime_PanicNilError : (Try.prog.info? 250).map (fun i => (i.zero, i.size, i.bytes)) = some (some (.agg #[]), 0, 0) := by kernel_rfl
theorem ag_runtime_PanicNilError : Agg Try.prog 250 0 := ⟨_, Try.underlying250, rfl, sz_runtime_PanicNilError⟩
theorem sz_runtime_TypeAssertionError : (Try.prog.info? 247).map (·.size) = some 4 := by kernel_rfl
theorem zi_runtime_TypeAssertionError : (Try.prog.info? 247).map (fun i => (i.zero, i.size)) = some (some (.agg #[.pointer none, .pointer none, .pointer none, .string ByteArray.empty]), 4) := by kernel_rfl
theorem zb_runtime_TypeAssertionError : (Try.prog.info? 247).map (fun i => (i.zero, i.size, i.bytes)) = some (some (.agg #[.pointer none, .pointer none, .pointer none, .string ByteArray.empty]), 4, 40) := by kernel_rfl
theorem ag_runtime_TypeAssertionError : Agg Try.prog 247 4 := ⟨_, Try.underlying247, rfl, sz_runtime_TypeAssertionError⟩
theorem sz_runtime_boundsError : (Try.prog.info? 8).map (·.size) = some 4 := by kernel_rfl
theorem zi_runtime_boundsError : (Try.prog.info? 8).map (fun i => (i.zero, i.size)) = some (some (.agg #[.int .i64 0, .int .i64 0, .bool false, .int .u8 0]), 4) := by kernel_rfl
theorem zb_runtime_boundsError : (Try.prog.info? 8).map (fun i => (i.zero, i.size, i.bytes)) = some (some (.agg #[.int .i64 0, .int .i64 0, .bool false, .int .u8 0]), 4, 24) := by kernel_rfl
theorem ag_runtime_boundsError : Agg Try.prog 8 4 := ⟨_, Try.underlying8, rfl, sz_runtime_boundsError⟩
theorem sz_runtime_errorAddressString : (Try.prog.info? 14).map (·.size) = some 2 := by kernel_rfl
theorem zi_runtime_errorAddressString : (Try.prog.info? 14).map (fun i => (i.zero, i.size)) = some (some (.agg #[.string ByteArray.empty, .int .u64 0]), 2) := by kernel_rfl
theorem zb_runtime_errorAddressString : (Try.prog.info? 14).map (fun i => (i.zero, i.size, i.bytes)) = some (some (.agg #[.string ByteArray.empty, .int .u64 0]), 2, 24) := by kernel_rfl
theorem ag_runtime_errorAddressString : Agg Try.prog 14 2 := ⟨_, Try.underlying14, rfl, sz_runtime_errorAddressString⟩
theorem sz_runtime_errorString : (Try.prog.info? 10).map (·.size) = some 1 := by kernel_rfl
theorem zi_runtime_errorString : (Try.prog.info? 10).map (fun i => (i.zero, i.size)) = some (some (.string ByteArray.empty), 1) := by kernel_rfl
theorem zb_runtime_errorString : (Try.prog.info? 10).map (fun i => (i.zero, i.size, i.bytes)) = some (some (.string ByteArray.empty), 1, 16) := by kernel_rfl
theorem sz_runtime_plainError : (Try.prog.info? 11).map (·.size) = some 1 := by kernel_rfl
theorem zi_runtime_plainError : (Try.prog.info? 11).map (fun i => (i.zero, i.size)) = some (some (.string ByteArray.empty), 1) := by kernel_rfl
theorem zb_runtime_plainError : (Try.prog.info? 11).map (fun i => (i.zero, i.size, i.bytes)) = some (some (.string ByteArray.empty), 1, 16) := by kernel_rfl
theorem sz_slices_sortedHint : (Try.prog.info? 228).map (·.size) = some 1 := by kernel_rfl
theorem zi_slices_sortedHint : (Try.prog.info? 228).map (fun i => (i.zero, i.size)) = some (some (.int .i64 0), 1) := by kernel_rfl
theorem zb_slices_sortedHint : (Try.prog.info? 228).map (fun i => (i.zero, i.size, i.bytes)) = some (some (.int .i64 0), 1, 8) := by kernel_rfl
theorem sz_slices_xorshift : (Try.prog.info? 238).map (·.size) = some 1 := by kernel_rfl
theorem zi_slices_xorshift : (Try.prog.info? 238).map (fun i => (i.zero, i.size)) = some (some (.int .u64 0), 1) := by kernel_rfl
theorem zb_slices_xorshift : (Try.prog.info? 238).map (fun i => (i.zero, i.size, i.bytes)) = some (some (.int .u64 0), 1, 8) := by kernel_rfl
theorem sz_string : (Try.prog.info? 9).map (·.size) = some 1 := by kernel_rfl
theorem zi_string : (Try.prog.info? 9).map (fun i => (i.zero, i.size)) = some (some (.string ByteArray.empty), 1) := by kernel_rfl
theorem zb_string : (Try.prog.info? 9).map (fun i => (i.zero, i.size, i.bytes)) = some (some (.string ByteArray.empty), 1, 16) := by kernel_rfl
theorem sz_StBSuint8_Wrongint_ : (Try.prog.info? 121).map (·.size) = some 2 := by kernel_rfl
theorem zi_StBSuint8_Wrongint_ : (Try.prog.info? 121).map (fun i => (i.zero, i.size)) = some (some (.agg #[.slice none 0 0, .int .i64 0]), 2) := by kernel_rfl
theorem zb_StBSuint8_Wrongint_ : (Try.prog.info? 121).map (fun i => (i.zero, i.size, i.bytes)) = some (some (.agg #[.slice none 0 0, .int .i64 0]), 2, 32) := by kernel_rfl
theorem ag_StBSuint8_Wrongint_ : Agg Try.prog 121 2 := ⟨_, Try.underlying121, rfl, sz_StBSuint8_Wrongint_⟩
theorem sz_StErrapi_Errno_DataSuint8_ : (Try.prog.info? 72).map (·.size) = some 2 := by kernel_rfl
theorem zi_StErrapi_Errno_DataSuint8_ : (Try.prog.info? 72).map (fun i => (i.zero, i.size)) = some (some (.agg #[.int .i64 0, .slice none 0 0]), 2) := by kernel_rfl
theorem zb_StErrapi_Errno_DataSuint8_ : (Try.prog.info? 72).map (fun i => (i.zero, i.size, i.bytes)) = some (some (.agg #[.int .i64 0, .slice none 0 0]), 2, 32) := by kernel_rfl
theorem ag_StErrapi_Errno_DataSuint8_ : Agg Try.prog 72 2 := ⟨_, Try.underlying72, rfl, sz_StErrapi_Errno_DataSuint8_⟩
theorem sz_StGapi_Geom_AdminSuint8_Changesint_Leftint_ : (Try.prog.info? 90).map (·.size) = some 7 := by kernel_rfl
theorem zi_StGapi_Geom_AdminSuint8_Changesint_Leftint_ : (Try.prog.info? 90).map (fun i => (i.zero, i.size)) = some (some (.agg #[.int .i64 0, .int .i64 0, .int .i64 0, .int .i64 0, .slice none 0 0, .int .i64 0, .int .i64 0]), 7) := by kernel_rfl
theorem zb_StGapi_Geom_AdminSuint8_Changesint_Leftint_ : (Try.prog.info? 90).map (fun i => (i.zero, i.size, i.bytes)) = some (some (.agg #[.int .i64 0, .int .i64 0, .int .i64 0, .int .i64 0, .slice none 0 0, .int .i64 0, .int .i64 0]), 7, 72) := by kernel_rfl
theorem ag_StGapi_Geom_AdminSuint8_Changesint_Leftint_ : Agg Try.prog 90 7 := ⟨_, Try.underlying90, rfl, sz_StGapi_Geom_AdminSuint8_Changesint_Leftint_⟩
theorem sz_StGapi_Geom_AdminSuint8_Changesint_Leftint_TenantsSchatelaineref30_Tenant_SpacesSchatelaineref30_Space_DataSchatelaineref30_Sector_RecordsSapi_Record_ : (Try.prog.info? 102).map (·.size) = some 11 := by kernel_rfl
theorem zi_StGapi_Geom_AdminSuint8_Changesint_Leftint_TenantsSchatelaineref30_Tenant_SpacesSchatelaineref30_Space_DataSchatelaineref30_Sector_RecordsSapi_Record_ : (Try.prog.info? 102).map (fun i => (i.zero, i.size)) = some (some (.agg #[.int .i64 0, .int .i64 0, .int .i64 0, .int .i64 0, .slice none 0 0, .int .i64 0, .int .i64 0, .slice none 0 0, .slice none 0 0, .slice none 0 0, .slice none 0 0]), 11) := by kernel_rfl
theorem zb_StGapi_Geom_AdminSuint8_Changesint_Leftint_TenantsSchatelaineref30_Tenant_SpacesSchatelaineref30_Space_DataSchatelaineref30_Sector_RecordsSapi_Record_ : (Try.prog.info? 102).map (fun i => (i.zero, i.size, i.bytes)) = some (some (.agg #[.int .i64 0, .int .i64 0, .int .i64 0, .int .i64 0, .slice none 0 0, .int .i64 0, .int .i64 0, .slice none 0 0, .slice none 0 0, .slice none 0 0, .slice none 0 0]), 11, 168) := by kernel_rfl
theorem ag_StGapi_Geom_AdminSuint8_Changesint_Leftint_TenantsSchatelaineref30_Tenant_SpacesSchatelaineref30_Space_DataSchatelaineref30_Sector_RecordsSapi_Record_ : Agg Try.prog 102 11 := ⟨_, Try.underlying102, rfl, sz_StGapi_Geom_AdminSuint8_Changesint_Leftint_TenantsSchatelaineref30_Tenant_SpacesSchatelaineref30_Space_DataSchatelaineref30_Sector_RecordsSapi_Record_⟩
theorem sz_StIDint_Quotaint_CredSuint8_ : (Try.prog.info? 207).map (·.size) = some 3 := by kernel_rfl
theorem zi_StIDint_Quotaint_CredSuint8_ : (Try.prog.info? 207).map (fun i => (i.zero, i.size)) = some (some (.agg #[.int .i64 0, .int .i64 0, .slice none 0 0]), 3) := by kernel_rfl
theorem zb_StIDint_Quotaint_CredSuint8_ : (Try.prog.info? 207).map (fun i => (i.zero, i.size, i.bytes)) = some (some (.agg #[.int .i64 0, .int .i64 0, .slice none 0 0]), 3, 40) := by kernel_rfl
theorem ag_StIDint_Quotaint_CredSuint8_ : Agg Try.prog 207 3 := ⟨_, Try.underlying207, rfl, sz_StIDint_Quotaint_CredSuint8_⟩
theorem sz_StIDint_Tenantint_Sectorsint_ : (Try.prog.info? 159).map (·.size) = some 3 := by kernel_rfl
theorem zi_StIDint_Tenantint_Sectorsint_ : (Try.prog.info? 159).map (fun i => (i.zero, i.size)) = some (some (.agg #[.int .i64 0, .int .i64 0, .int .i64 0]), 3) := by kernel_rfl
theorem zb_StIDint_Tenantint_Sectorsint_ : (Try.prog.info? 159).map (fun i => (i.zero, i.size, i.bytes)) = some (some (.agg #[.int .i64 0, .int .i64 0, .int .i64 0]), 3, 24) := by kernel_rfl
theorem ag_StIDint_Tenantint_Sectorsint_ : Agg Try.prog 159 3 := ⟨_, Try.underlying159, rfl, sz_StIDint_Tenantint_Sectorsint_⟩
theorem sz_StKindint_Tenantint_Spaceint_Nint_Mint_CredSuint8_DataSuint8_ : (Try.prog.info? 23).map (·.size) = some 7 := by kernel_rfl
theorem zi_StKindint_Tenantint_Spaceint_Nint_Mint_CredSuint8_DataSuint8_ : (Try.prog.info? 23).map (fun i => (i.zero, i.size)) = some (some (.agg #[.int .i64 0, .int .i64 0, .int .i64 0, .int .i64 0, .int .i64 0, .slice none 0 0, .slice none 0 0]), 7) := by kernel_rfl
theorem zb_StKindint_Tenantint_Spaceint_Nint_Mint_CredSuint8_DataSuint8_ : (Try.prog.info? 23).map (fun i => (i.zero, i.size, i.bytes)) = some (some (.agg #[.int .i64 0, .int .i64 0, .int .i64 0, .int .i64 0, .int .i64 0, .slice none 0 0, .slice none 0 0]), 7, 88) := by kernel_rfl
theorem ag_StKindint_Tenantint_Spaceint_Nint_Mint_CredSuint8_DataSuint8_ : Agg Try.prog 23 7 := ⟨_, Try.underlying23, rfl, sz_StKindint_Tenantint_Spaceint_Nint_Mint_CredSuint8_DataSuint8_⟩
theorem sz_StOpapi_Op_Kindint_Nint_DataSuint8_ : (Try.prog.info? 76).map (·.size) = some 10 := by kernel_rfl
theorem zi_StOpapi_Op_Kindint_Nint_DataSuint8_ : (Try.prog.info? 76).map (fun i => (i.zero, i.size)) = some (some (.agg #[.int .i64 0, .int .i64 0, .int .i64 0, .int .i64 0, .int .i64 0, .slice none 0 0, .slice none 0 0, .int .i64 0, .int .i64 0, .slice none 0 0]), 10) := by kernel_rfl
theorem zb_StOpapi_Op_Kindint_Nint_DataSuint8_ : (Try.prog.info? 76).map (fun i => (i.zero, i.size, i.bytes)) = some (some (.agg #[.int .i64 0, .int .i64 0, .int .i64 0, .int .i64 0, .int .i64 0, .slice none 0 0, .slice none 0 0, .int .i64 0, .int .i64 0, .slice none 0 0]), 10, 128) := by kernel_rfl
theorem ag_StOpapi_Op_Kindint_Nint_DataSuint8_ : Agg Try.prog 76 10 := ⟨_, Try.underlying76, rfl, sz_StOpapi_Op_Kindint_Nint_DataSuint8_⟩
theorem sz_StOpsint_Tenantsint_Sectorsint_Writesint_Readsint_Erasesint_ : (Try.prog.info? 45).map (·.size) = some 6 := by kernel_rfl
theorem zi_StOpsint_Tenantsint_Sectorsint_Writesint_Readsint_Erasesint_ : (Try.prog.info? 45).map (fun i => (i.zero, i.size)) = some (some (.agg #[.int .i64 0, .int .i64 0, .int .i64 0, .int .i64 0, .int .i64 0, .int .i64 0]), 6) := by kernel_rfl
theorem zb_StOpsint_Tenantsint_Sectorsint_Writesint_Readsint_Erasesint_ : (Try.prog.info? 45).map (fun i => (i.zero, i.size, i.bytes)) = some (some (.agg #[.int .i64 0, .int .i64 0, .int .i64 0, .int .i64 0, .int .i64 0, .int .i64 0]), 6, 48) := by kernel_rfl
theorem ag_StOpsint_Tenantsint_Sectorsint_Writesint_Readsint_Erasesint_ : Agg Try.prog 45 6 := ⟨_, Try.underlying45, rfl, sz_StOpsint_Tenantsint_Sectorsint_Writesint_Readsint_Erasesint_⟩
theorem sz_StSeedSuint8_Atint_ : (Try.prog.info? 52).map (·.size) = some 2 := by kernel_rfl
theorem zi_StSeedSuint8_Atint_ : (Try.prog.info? 52).map (fun i => (i.zero, i.size)) = some (some (.agg #[.slice none 0 0, .int .i64 0]), 2) := by kernel_rfl
theorem zb_StSeedSuint8_Atint_ : (Try.prog.info? 52).map (fun i => (i.zero, i.size, i.bytes)) = some (some (.agg #[.slice none 0 0, .int .i64 0]), 2, 32) := by kernel_rfl
theorem ag_StSeedSuint8_Atint_ : Agg Try.prog 52 2 := ⟨_, Try.underlying52, rfl, sz_StSeedSuint8_Atint_⟩
theorem sz_StSeqint_Kindint_Tenantint_Spaceint_Nint_Mint_ : (Try.prog.info? 30).map (·.size) = some 6 := by kernel_rfl
theorem zi_StSeqint_Kindint_Tenantint_Spaceint_Nint_Mint_ : (Try.prog.info? 30).map (fun i => (i.zero, i.size)) = some (some (.agg #[.int .i64 0, .int .i64 0, .int .i64 0, .int .i64 0, .int .i64 0, .int .i64 0]), 6) := by kernel_rfl
theorem zb_StSeqint_Kindint_Tenantint_Spaceint_Nint_Mint_ : (Try.prog.info? 30).map (fun i => (i.zero, i.size, i.bytes)) = some (some (.agg #[.int .i64 0, .int .i64 0, .int .i64 0, .int .i64 0, .int .i64 0, .int .i64 0]), 6, 48) := by kernel_rfl
theorem ag_StSeqint_Kindint_Tenantint_Spaceint_Nint_Mint_ : Agg Try.prog 30 6 := ⟨_, Try.underlying30, rfl, sz_StSeqint_Kindint_Tenantint_Spaceint_Nint_Mint_⟩
theorem sz_StSizeint_Tenantsint_Spacesint_Dataint_ : (Try.prog.info? 61).map (·.size) = some 4 := by kernel_rfl
theorem zi_StSizeint_Tenantsint_Spacesint_Dataint_ : (Try.prog.info? 61).map (fun i => (i.zero, i.size)) = some (some (.agg #[.int .i64 0, .int .i64 0, .int .i64 0, .int .i64 0]), 4) := by kernel_rfl
theorem zb_StSizeint_Tenantsint_Spacesint_Dataint_ : (Try.prog.info? 61).map (fun i => (i.zero, i.size, i.bytes)) = some (some (.agg #[.int .i64 0, .int .i64 0, .int .i64 0, .int .i64 0]), 4, 32) := by kernel_rfl
theorem ag_StSizeint_Tenantsint_Spacesint_Dataint_ : Agg Try.prog 61 4 := ⟨_, Try.underlying61, rfl, sz_StSizeint_Tenantsint_Spacesint_Dataint_⟩
theorem sz_StSize_uintptr_PtrBytesuintptr_Hashuint32_TFlagabi_TFlag_Align_uint8_FieldAlign_uint8_Kind_abi_Kind_Equalfunc_unsafe_Pointer_unsafe_Pointer_bool_GCDataPuint8_Strabi_NameOff_PtrToThisabi_TypeOff_ : (Try.prog.info? 257).map (·.size) = some 11 := by kernel_rfl
theorem zi_StSize_uintptr_PtrBytesuintptr_Hashuint32_TFlagabi_TFlag_Align_uint8_FieldAlign_uint8_Kind_abi_Kind_Equalfunc_unsafe_Pointer_unsafe_Pointer_bool_GCDataPuint8_Strabi_NameOff_PtrToThisabi_TypeOff_ : (Try.prog.info? 257).map (fun i => (i.zero, i.size)) = some (some (.agg #[.int .u64 0, .int .u64 0, .int .u32 0, .int .u8 0, .int .u8 0, .int .u8 0, .int .u8 0, .nilFunc, .pointer none, .int .i32 0, .int .i32 0]), 11) := by kernel_rfl
theorem zb_StSize_uintptr_PtrBytesuintptr_Hashuint32_TFlagabi_TFlag_Align_uint8_FieldAlign_uint8_Kind_abi_Kind_Equalfunc_unsafe_Pointer_unsafe_Pointer_bool_GCDataPuint8_Strabi_NameOff_PtrToThisabi_TypeOff_ : (Try.prog.info? 257).map (fun i => (i.zero, i.size, i.bytes)) = some (some (.agg #[.int .u64 0, .int .u64 0, .int .u32 0, .int .u8 0, .int .u8 0, .int .u8 0, .int .u8 0, .nilFunc, .pointer none, .int .i32 0, .int .i32 0]), 11, 48) := by kernel_rfl
theorem ag_StSize_uintptr_PtrBytesuintptr_Hashuint32_TFlagabi_TFlag_Align_uint8_FieldAlign_uint8_Kind_abi_Kind_Equalfunc_unsafe_Pointer_unsafe_Pointer_bool_GCDataPuint8_Strabi_NameOff_PtrToThisabi_TypeOff_ : Agg Try.prog 257 11 := ⟨_, Try.underlying257, rfl, sz_StSize_uintptr_PtrBytesuintptr_Hashuint32_TFlagabi_TFlag_Align_uint8_FieldAlign_uint8_Kind_abi_Kind_Equalfunc_unsafe_Pointer_unsafe_Pointer_bool_GCDataPuint8_Strabi_NameOff_PtrToThisabi_TypeOff_⟩
theorem sz_StSpaceint_Indexint_DataSuint8_ : (Try.prog.info? 162).map (·.size) = some 3 := by kernel_rfl
theorem zi_StSpaceint_Indexint_DataSuint8_ : (Try.prog.info? 162).map (fun i => (i.zero, i.size)) = some (some (.agg #[.int .i64 0, .int .i64 0, .slice none 0 0]), 3) := by kernel_rfl
theorem zb_StSpaceint_Indexint_DataSuint8_ : (Try.prog.info? 162).map (fun i => (i.zero, i.size, i.bytes)) = some (some (.agg #[.int .i64 0, .int .i64 0, .slice none 0 0]), 3, 40) := by kernel_rfl
theorem ag_StSpaceint_Indexint_DataSuint8_ : Agg Try.prog 162 3 := ⟨_, Try.underlying162, rfl, sz_StSpaceint_Indexint_DataSuint8_⟩
theorem sz_St_A0_Pruntime_PanicNilError_ : (Try.prog.info? 249).map (·.size) = some 0 := by kernel_rfl
theorem zi_St_A0_Pruntime_PanicNilError_ : (Try.prog.info? 249).map (fun i => (i.zero, i.size)) = some (some (.agg #[]), 0) := by kernel_rfl
theorem zb_St_A0_Pruntime_PanicNilError_ : (Try.prog.info? 249).map (fun i => (i.zero, i.size, i.bytes)) = some (some (.agg #[]), 0, 0) := by kernel_rfl
theorem ag_St_A0_Pruntime_PanicNilError_ : Agg Try.prog 249 0 := ⟨_, Try.underlying249, rfl, sz_St_A0_Pruntime_PanicNilError_⟩
theorem sz_St_interfacePabi_Type_concretePabi_Type_assertedPabi_Type_missingMethodstring_ : (Try.prog.info? 246).map (·.size) = some 4 := by kernel_rfl
theorem zi_St_interfacePabi_Type_concretePabi_Type_assertedPabi_Type_missingMethodstring_ : (Try.prog.info? 246).map (fun i => (i.zero, i.size)) = some (some (.agg #[.pointer none, .pointer none, .pointer none, .string ByteArray.empty]), 4) := by kernel_rfl
theorem zb_St_interfacePabi_Type_concretePabi_Type_assertedPabi_Type_missingMethodstring_ : (Try.prog.info? 246).map (fun i => (i.zero, i.size, i.bytes)) = some (some (.agg #[.pointer none, .pointer none, .pointer none, .string ByteArray.empty]), 4, 40) := by kernel_rfl
theorem ag_St_interfacePabi_Type_concretePabi_Type_assertedPabi_Type_missingMethodstring_ : Agg Try.prog 246 4 := ⟨_, Try.underlying246, rfl, sz_St_interfacePabi_Type_concretePabi_Type_assertedPabi_Type_missingMethodstring_⟩
theorem sz_Stfield_state_bSuint8_ : (Try.prog.info? 113).map (·.size) = some 2 := by kernel_rfl
theorem zi_Stfield_state_bSuint8_ : (Try.prog.info? 113).map (fun i => (i.zero, i.size)) = some (some (.agg #[.int .i64 0, .slice none 0 0]), 2) := by kernel_rfl
theorem zb_Stfield_state_bSuint8_ : (Try.prog.info? 113).map (fun i => (i.zero, i.size, i.bytes)) = some (some (.agg #[.int .i64 0, .slice none 0 0]), 2, 32) := by kernel_rfl
theorem ag_Stfield_state_bSuint8_ : Agg Try.prog 113 2 := ⟨_, Try.underlying113, rfl, sz_Stfield_state_bSuint8_⟩
theorem sz_Stfield_state_bSuint8_isbool_ : (Try.prog.info? 178).map (·.size) = some 3 := by kernel_rfl
theorem zi_Stfield_state_bSuint8_isbool_ : (Try.prog.info? 178).map (fun i => (i.zero, i.size)) = some (some (.agg #[.int .i64 0, .slice none 0 0, .bool false]), 3) := by kernel_rfl
theorem zb_Stfield_state_bSuint8_isbool_ : (Try.prog.info? 178).map (fun i => (i.zero, i.size, i.bytes)) = some (some (.agg #[.int .i64 0, .slice none 0 0, .bool false]), 3, 40) := by kernel_rfl
theorem ag_Stfield_state_bSuint8_isbool_ : Agg Try.prog 178 3 := ⟨_, Try.underlying178, rfl, sz_Stfield_state_bSuint8_isbool_⟩
theorem sz_Stgapi_Geom_adminSuint8_changesint_leftint_tenantsM_int_model_tenant_spacesM_int_model_space_recordsSapi_Record_ : (Try.prog.info? 145).map (·.size) = some 10 := by kernel_rfl
theorem zi_Stgapi_Geom_adminSuint8_changesint_leftint_tenantsM_int_model_tenant_spacesM_int_model_space_recordsSapi_Record_ : (Try.prog.info? 145).map (fun i => (i.zero, i.size)) = some (some (.agg #[.int .i64 0, .int .i64 0, .int .i64 0, .int .i64 0, .slice none 0 0, .int .i64 0, .int .i64 0, .map none, .map none, .slice none 0 0]), 10) := by kernel_rfl
theorem zb_Stgapi_Geom_adminSuint8_changesint_leftint_tenantsM_int_model_tenant_spacesM_int_model_space_recordsSapi_Record_ : (Try.prog.info? 145).map (fun i => (i.zero, i.size, i.bytes)) = some (some (.agg #[.int .i64 0, .int .i64 0, .int .i64 0, .int .i64 0, .slice none 0 0, .int .i64 0, .int .i64 0, .map none, .map none, .slice none 0 0]), 10, 112) := by kernel_rfl
theorem ag_Stgapi_Geom_adminSuint8_changesint_leftint_tenantsM_int_model_tenant_spacesM_int_model_space_recordsSapi_Record_ : Agg Try.prog 145 10 := ⟨_, Try.underlying145, rfl, sz_Stgapi_Geom_adminSuint8_changesint_leftint_tenantsM_int_model_tenant_spacesM_int_model_space_recordsSapi_Record_⟩
theorem sz_Stmsgstring_addruintptr_ : (Try.prog.info? 13).map (·.size) = some 2 := by kernel_rfl
theorem zi_Stmsgstring_addruintptr_ : (Try.prog.info? 13).map (fun i => (i.zero, i.size)) = some (some (.agg #[.string ByteArray.empty, .int .u64 0]), 2) := by kernel_rfl
theorem zb_Stmsgstring_addruintptr_ : (Try.prog.info? 13).map (fun i => (i.zero, i.size, i.bytes)) = some (some (.agg #[.string ByteArray.empty, .int .u64 0]), 2, 24) := by kernel_rfl
theorem ag_Stmsgstring_addruintptr_ : Agg Try.prog 13 2 := ⟨_, Try.underlying13, rfl, sz_Stmsgstring_addruintptr_⟩
theorem sz_Stquotaint_credSuint8_ : (Try.prog.info? 165).map (·.size) = some 2 := by kernel_rfl
theorem zi_Stquotaint_credSuint8_ : (Try.prog.info? 165).map (fun i => (i.zero, i.size)) = some (some (.agg #[.int .i64 0, .slice none 0 0]), 2) := by kernel_rfl
theorem zb_Stquotaint_credSuint8_ : (Try.prog.info? 165).map (fun i => (i.zero, i.size, i.bytes)) = some (some (.agg #[.int .i64 0, .slice none 0 0]), 2, 32) := by kernel_rfl
theorem ag_Stquotaint_credSuint8_ : Agg Try.prog 165 2 := ⟨_, Try.underlying165, rfl, sz_Stquotaint_credSuint8_⟩
theorem sz_StseedSuint8_atuint64_isbool_ : (Try.prog.info? 131).map (·.size) = some 3 := by kernel_rfl
theorem zi_StseedSuint8_atuint64_isbool_ : (Try.prog.info? 131).map (fun i => (i.zero, i.size)) = some (some (.agg #[.slice none 0 0, .int .u64 0, .bool false]), 3) := by kernel_rfl
theorem zb_StseedSuint8_atuint64_isbool_ : (Try.prog.info? 131).map (fun i => (i.zero, i.size, i.bytes)) = some (some (.agg #[.slice none 0 0, .int .u64 0, .bool false]), 3, 40) := by kernel_rfl
theorem ag_StseedSuint8_atuint64_isbool_ : Agg Try.prog 131 3 := ⟨_, Try.underlying131, rfl, sz_StseedSuint8_atuint64_isbool_⟩
theorem sz_Sttenantint_dataSSuint8_ : (Try.prog.info? 149).map (·.size) = some 2 := by kernel_rfl
theorem zi_Sttenantint_dataSSuint8_ : (Try.prog.info? 149).map (fun i => (i.zero, i.size)) = some (some (.agg #[.int .i64 0, .slice none 0 0]), 2) := by kernel_rfl
theorem zb_Sttenantint_dataSSuint8_ : (Try.prog.info? 149).map (fun i => (i.zero, i.size, i.bytes)) = some (some (.agg #[.int .i64 0, .slice none 0 0]), 2, 32) := by kernel_rfl
theorem ag_Sttenantint_dataSSuint8_ : Agg Try.prog 149 2 := ⟨_, Try.underlying149, rfl, sz_Sttenantint_dataSSuint8_⟩
theorem sz_SttypPabi_Type_ : (Try.prog.info? 18).map (·.size) = some 1 := by kernel_rfl
theorem zi_SttypPabi_Type_ : (Try.prog.info? 18).map (fun i => (i.zero, i.size)) = some (some (.agg #[.pointer none]), 1) := by kernel_rfl
theorem zb_SttypPabi_Type_ : (Try.prog.info? 18).map (fun i => (i.zero, i.size, i.bytes)) = some (some (.agg #[.pointer none]), 1, 8) := by kernel_rfl
theorem ag_SttypPabi_Type_ : Agg Try.prog 18 1 := ⟨_, Try.underlying18, rfl, sz_SttypPabi_Type_⟩
theorem sz_Stwrongapi_Errno_ : (Try.prog.info? 111).map (·.size) = some 1 := by kernel_rfl
theorem zi_Stwrongapi_Errno_ : (Try.prog.info? 111).map (fun i => (i.zero, i.size)) = some (some (.agg #[.int .i64 0]), 1) := by kernel_rfl
theorem zb_Stwrongapi_Errno_ : (Try.prog.info? 111).map (fun i => (i.zero, i.size, i.bytes)) = some (some (.agg #[.int .i64 0]), 1, 8) := by kernel_rfl
theorem ag_Stwrongapi_Errno_ : Agg Try.prog 111 1 := ⟨_, Try.underlying111, rfl, sz_Stwrongapi_Errno_⟩
theorem sz_Stxint64_yint_signedbool_codeabi_BoundsErrorCode_ : (Try.prog.info? 7).map (·.size) = some 4 := by kernel_rfl
theorem zi_Stxint64_yint_signedbool_codeabi_BoundsErrorCode_ : (Try.prog.info? 7).map (fun i => (i.zero, i.size)) = some (some (.agg #[.int .i64 0, .int .i64 0, .bool false, .int .u8 0]), 4) := by kernel_rfl
theorem zb_Stxint64_yint_signedbool_codeabi_BoundsErrorCode_ : (Try.prog.info? 7).map (fun i => (i.zero, i.size, i.bytes)) = some (some (.agg #[.int .i64 0, .int .i64 0, .bool false, .int .u8 0]), 4, 24) := by kernel_rfl
theorem ag_Stxint64_yint_signedbool_codeabi_BoundsErrorCode_ : Agg Try.prog 7 4 := ⟨_, Try.underlying7, rfl, sz_Stxint64_yint_signedbool_codeabi_BoundsErrorCode_⟩
theorem sz_uint : (Try.prog.info? 138).map (·.size) = some 1 := by kernel_rfl
theorem zi_uint : (Try.prog.info? 138).map (fun i => (i.zero, i.size)) = some (some (.int .u64 0), 1) := by kernel_rfl
theorem zb_uint : (Try.prog.info? 138).map (fun i => (i.zero, i.size, i.bytes)) = some (some (.int .u64 0), 1, 8) := by kernel_rfl
theorem sz_uint32 : (Try.prog.info? 185).map (·.size) = some 1 := by kernel_rfl
theorem zi_uint32 : (Try.prog.info? 185).map (fun i => (i.zero, i.size)) = some (some (.int .u32 0), 1) := by kernel_rfl
theorem zb_uint32 : (Try.prog.info? 185).map (fun i => (i.zero, i.size, i.bytes)) = some (some (.int .u32 0), 1, 4) := by kernel_rfl
theorem sz_uint64 : (Try.prog.info? 130).map (·.size) = some 1 := by kernel_rfl
theorem zi_uint64 : (Try.prog.info? 130).map (fun i => (i.zero, i.size)) = some (some (.int .u64 0), 1) := by kernel_rfl
theorem zb_uint64 : (Try.prog.info? 130).map (fun i => (i.zero, i.size, i.bytes)) = some (some (.int .u64 0), 1, 8) := by kernel_rfl
theorem sz_uint8 : (Try.prog.info? 5).map (·.size) = some 1 := by kernel_rfl
theorem zi_uint8 : (Try.prog.info? 5).map (fun i => (i.zero, i.size)) = some (some (.int .u8 0), 1) := by kernel_rfl
theorem zb_uint8 : (Try.prog.info? 5).map (fun i => (i.zero, i.size, i.bytes)) = some (some (.int .u8 0), 1, 1) := by kernel_rfl
theorem sz_uintptr : (Try.prog.info? 12).map (·.size) = some 1 := by kernel_rfl
theorem zi_uintptr : (Try.prog.info? 12).map (fun i => (i.zero, i.size)) = some (some (.int .u64 0), 1) := by kernel_rfl
theorem zb_uintptr : (Try.prog.info? 12).map (fun i => (i.zero, i.size, i.bytes)) = some (some (.int .u64 0), 1, 8) := by kernel_rfl
theorem sz_unsafe_Pointer : (Try.prog.info? 259).map (·.size) = some 1 := by kernel_rfl
theorem zi_unsafe_Pointer : (Try.prog.info? 259).map (fun i => (i.zero, i.size)) = some (some (.pointer none), 1) := by kernel_rfl
theorem zb_unsafe_Pointer : (Try.prog.info? 259).map (fun i => (i.zero, i.size, i.bytes)) = some (some (.pointer none), 1, 8) := by kernel_rfl
end Go.Proofs.Ythaakmdafnjkpaa
