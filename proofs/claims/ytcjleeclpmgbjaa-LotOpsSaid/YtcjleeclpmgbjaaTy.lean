/- Facts on types: how many cells, the zero value. -/
import Derived.Test.YtcjleeclpmgbjaaInt
namespace Go.Proofs.Ytcjleeclpmgbjaa
open Go.RowKit
theorem sz_PA64_uint32 : (Try.prog.info? 94).map (·.size) = some 1 := by kernel_rfl
theorem zi_PA64_uint32 : (Try.prog.info? 94).map (fun i => (i.zero, i.size)) = some (some (.pointer none), 1) := by kernel_rfl
theorem zb_PA64_uint32 : (Try.prog.info? 94).map (fun i => (i.zero, i.size, i.bytes)) = some (some (.pointer none), 1, 8) := by kernel_rfl
theorem sz_Pabi_Type : (Try.prog.info? 17).map (·.size) = some 1 := by kernel_rfl
theorem zi_Pabi_Type : (Try.prog.info? 17).map (fun i => (i.zero, i.size)) = some (some (.pointer none), 1) := by kernel_rfl
theorem zb_Pabi_Type : (Try.prog.info? 17).map (fun i => (i.zero, i.size, i.bytes)) = some (some (.pointer none), 1, 8) := by kernel_rfl
theorem sz_Pchatelaineref43_Lot : (Try.prog.info? 31).map (·.size) = some 1 := by kernel_rfl
theorem zi_Pchatelaineref43_Lot : (Try.prog.info? 31).map (fun i => (i.zero, i.size)) = some (some (.pointer none), 1) := by kernel_rfl
theorem zb_Pchatelaineref43_Lot : (Try.prog.info? 31).map (fun i => (i.zero, i.size, i.bytes)) = some (some (.pointer none), 1, 8) := by kernel_rfl
theorem sz_Plot_Lot : (Try.prog.info? 27).map (·.size) = some 1 := by kernel_rfl
theorem zi_Plot_Lot : (Try.prog.info? 27).map (fun i => (i.zero, i.size)) = some (some (.pointer none), 1) := by kernel_rfl
theorem zb_Plot_Lot : (Try.prog.info? 27).map (fun i => (i.zero, i.size, i.bytes)) = some (some (.pointer none), 1, 8) := by kernel_rfl
theorem sz_Pruntime_PanicNilError : (Try.prog.info? 16).map (·.size) = some 1 := by kernel_rfl
theorem zi_Pruntime_PanicNilError : (Try.prog.info? 16).map (fun i => (i.zero, i.size)) = some (some (.pointer none), 1) := by kernel_rfl
theorem zb_Pruntime_PanicNilError : (Try.prog.info? 16).map (fun i => (i.zero, i.size, i.bytes)) = some (some (.pointer none), 1, 8) := by kernel_rfl
theorem sz_Pruntime_TypeAssertionError : (Try.prog.info? 15).map (·.size) = some 1 := by kernel_rfl
theorem zi_Pruntime_TypeAssertionError : (Try.prog.info? 15).map (fun i => (i.zero, i.size)) = some (some (.pointer none), 1) := by kernel_rfl
theorem zb_Pruntime_TypeAssertionError : (Try.prog.info? 15).map (fun i => (i.zero, i.size, i.bytes)) = some (some (.pointer none), 1, 8) := by kernel_rfl
theorem sz_Pstrings_Builder : (Try.prog.info? 80).map (·.size) = some 1 := by kernel_rfl
theorem zi_Pstrings_Builder : (Try.prog.info? 80).map (fun i => (i.zero, i.size)) = some (some (.pointer none), 1) := by kernel_rfl
theorem zb_Pstrings_Builder : (Try.prog.info? 80).map (fun i => (i.zero, i.size, i.bytes)) = some (some (.pointer none), 1, 8) := by kernel_rfl
theorem sz_Puint8 : (Try.prog.info? 105).map (·.size) = some 1 := by kernel_rfl
theorem zi_Puint8 : (Try.prog.info? 105).map (fun i => (i.zero, i.size)) = some (some (.pointer none), 1) := by kernel_rfl
theorem zb_Puint8 : (Try.prog.info? 105).map (fun i => (i.zero, i.size, i.bytes)) = some (some (.pointer none), 1, 8) := by kernel_rfl
theorem sz_A0_Pruntime_PanicNilError : (Try.prog.info? 120).map (·.size) = some 0 := by kernel_rfl
theorem zi_A0_Pruntime_PanicNilError : (Try.prog.info? 120).map (fun i => (i.zero, i.size)) = some (some (.agg #[]), 0) := by kernel_rfl
theorem zb_A0_Pruntime_PanicNilError : (Try.prog.info? 120).map (fun i => (i.zero, i.size, i.bytes)) = some (some (.agg #[]), 0, 0) := by kernel_rfl
theorem ag_A0_Pruntime_PanicNilError : Agg Try.prog 120 0 := ⟨_, Try.underlying120, rfl, sz_A0_Pruntime_PanicNilError⟩
theorem sz_A32_uint8 : (Try.prog.info? 66).map (·.size) = some 32 := by kernel_rfl
theorem zi_A32_uint8 : (Try.prog.info? 66).map (fun i => (i.zero, i.size)) = some (some (.agg (List.replicate 32 (.int .u8 0)).toArray), 32) := by kernel_rfl
theorem zb_A32_uint8 : (Try.prog.info? 66).map (fun i => (i.zero, i.size, i.bytes)) = some (some (.agg (List.replicate 32 (.int .u8 0)).toArray), 32, 32) := by kernel_rfl
theorem ag_A32_uint8 : Agg Try.prog 66 32 := ⟨_, Try.underlying66, rfl, sz_A32_uint8⟩
theorem sz_A3_int : (Try.prog.info? 74).map (·.size) = some 3 := by kernel_rfl
theorem zi_A3_int : (Try.prog.info? 74).map (fun i => (i.zero, i.size)) = some (some (.agg #[.int .i64 0, .int .i64 0, .int .i64 0]), 3) := by kernel_rfl
theorem zb_A3_int : (Try.prog.info? 74).map (fun i => (i.zero, i.size, i.bytes)) = some (some (.agg #[.int .i64 0, .int .i64 0, .int .i64 0]), 3, 24) := by kernel_rfl
theorem ag_A3_int : Agg Try.prog 74 3 := ⟨_, Try.underlying74, rfl, sz_A3_int⟩
theorem sz_A4_uint : (Try.prog.info? 109).map (·.size) = some 4 := by kernel_rfl
theorem zi_A4_uint : (Try.prog.info? 109).map (fun i => (i.zero, i.size)) = some (some (.agg #[.int .u64 0, .int .u64 0, .int .u64 0, .int .u64 0]), 4) := by kernel_rfl
theorem zb_A4_uint : (Try.prog.info? 109).map (fun i => (i.zero, i.size, i.bytes)) = some (some (.agg #[.int .u64 0, .int .u64 0, .int .u64 0, .int .u64 0]), 4, 32) := by kernel_rfl
theorem ag_A4_uint : Agg Try.prog 109 4 := ⟨_, Try.underlying109, rfl, sz_A4_uint⟩
theorem sz_A4_uint8 : (Try.prog.info? 108).map (·.size) = some 4 := by kernel_rfl
theorem zi_A4_uint8 : (Try.prog.info? 108).map (fun i => (i.zero, i.size)) = some (some (.agg #[.int .u8 0, .int .u8 0, .int .u8 0, .int .u8 0]), 4) := by kernel_rfl
theorem zb_A4_uint8 : (Try.prog.info? 108).map (fun i => (i.zero, i.size, i.bytes)) = some (some (.agg #[.int .u8 0, .int .u8 0, .int .u8 0, .int .u8 0]), 4, 4) := by kernel_rfl
theorem ag_A4_uint8 : Agg Try.prog 108 4 := ⟨_, Try.underlying108, rfl, sz_A4_uint8⟩
theorem sz_A64_uint32 : (Try.prog.info? 89).map (·.size) = some 64 := by kernel_rfl
theorem zi_A64_uint32 : (Try.prog.info? 89).map (fun i => (i.zero, i.size)) = some (some (.agg (List.replicate 64 (.int .u32 0)).toArray), 64) := by kernel_rfl
theorem zb_A64_uint32 : (Try.prog.info? 89).map (fun i => (i.zero, i.size, i.bytes)) = some (some (.agg (List.replicate 64 (.int .u32 0)).toArray), 64, 256) := by kernel_rfl
theorem ag_A64_uint32 : Agg Try.prog 89 64 := ⟨_, Try.underlying89, rfl, sz_A64_uint32⟩
theorem sz_A8_uint32 : (Try.prog.info? 91).map (·.size) = some 8 := by kernel_rfl
theorem zi_A8_uint32 : (Try.prog.info? 91).map (fun i => (i.zero, i.size)) = some (some (.agg #[.int .u32 0, .int .u32 0, .int .u32 0, .int .u32 0, .int .u32 0, .int .u32 0, .int .u32 0, .int .u32 0]), 8) := by kernel_rfl
theorem zb_A8_uint32 : (Try.prog.info? 91).map (fun i => (i.zero, i.size, i.bytes)) = some (some (.agg #[.int .u32 0, .int .u32 0, .int .u32 0, .int .u32 0, .int .u32 0, .int .u32 0, .int .u32 0, .int .u32 0]), 8, 32) := by kernel_rfl
theorem ag_A8_uint32 : Agg Try.prog 91 8 := ⟨_, Try.underlying91, rfl, sz_A8_uint32⟩
theorem sz_SSuint8 : (Try.prog.info? 87).map (·.size) = some 1 := by kernel_rfl
theorem zi_SSuint8 : (Try.prog.info? 87).map (fun i => (i.zero, i.size)) = some (some (.slice none 0 0), 1) := by kernel_rfl
theorem zb_SSuint8 : (Try.prog.info? 87).map (fun i => (i.zero, i.size, i.bytes)) = some (some (.slice none 0 0), 1, 24) := by kernel_rfl
theorem sz_Sapi_Op : (Try.prog.info? 40).map (·.size) = some 1 := by kernel_rfl
theorem zi_Sapi_Op : (Try.prog.info? 40).map (fun i => (i.zero, i.size)) = some (some (.slice none 0 0), 1) := by kernel_rfl
theorem zb_Sapi_Op : (Try.prog.info? 40).map (fun i => (i.zero, i.size, i.bytes)) = some (some (.slice none 0 0), 1, 24) := by kernel_rfl
theorem sz_Sint : (Try.prog.info? 23).map (·.size) = some 1 := by kernel_rfl
theorem zi_Sint : (Try.prog.info? 23).map (fun i => (i.zero, i.size)) = some (some (.slice none 0 0), 1) := by kernel_rfl
theorem zb_Sint : (Try.prog.info? 23).map (fun i => (i.zero, i.size, i.bytes)) = some (some (.slice none 0 0), 1, 24) := by kernel_rfl
theorem sz_Sstring : (Try.prog.info? 60).map (·.size) = some 1 := by kernel_rfl
theorem zi_Sstring : (Try.prog.info? 60).map (fun i => (i.zero, i.size)) = some (some (.slice none 0 0), 1) := by kernel_rfl
theorem zb_Sstring : (Try.prog.info? 60).map (fun i => (i.zero, i.size, i.bytes)) = some (some (.slice none 0 0), 1, 24) := by kernel_rfl
theorem sz_Suint32 : (Try.prog.info? 99).map (·.size) = some 1 := by kernel_rfl
theorem zi_Suint32 : (Try.prog.info? 99).map (fun i => (i.zero, i.size)) = some (some (.slice none 0 0), 1) := by kernel_rfl
theorem zb_Suint32 : (Try.prog.info? 99).map (fun i => (i.zero, i.size, i.bytes)) = some (some (.slice none 0 0), 1, 24) := by kernel_rfl
theorem sz_Suint8 : (Try.prog.info? 22).map (·.size) = some 1 := by kernel_rfl
theorem zi_Suint8 : (Try.prog.info? 22).map (fun i => (i.zero, i.size)) = some (some (.slice none 0 0), 1) := by kernel_rfl
theorem zb_Suint8 : (Try.prog.info? 22).map (fun i => (i.zero, i.size, i.bytes)) = some (some (.slice none 0 0), 1, 24) := by kernel_rfl
theorem sz_abi_BoundsErrorCode : (Try.prog.info? 6).map (·.size) = some 1 := by kernel_rfl
theorem zi_abi_BoundsErrorCode : (Try.prog.info? 6).map (fun i => (i.zero, i.size)) = some (some (.int .u8 0), 1) := by kernel_rfl
theorem zb_abi_BoundsErrorCode : (Try.prog.info? 6).map (fun i => (i.zero, i.size, i.bytes)) = some (some (.int .u8 0), 1, 1) := by kernel_rfl
theorem sz_abi_Kind : (Try.prog.info? 124).map (·.size) = some 1 := by kernel_rfl
theorem zi_abi_Kind : (Try.prog.info? 124).map (fun i => (i.zero, i.size)) = some (some (.int .u8 0), 1) := by kernel_rfl
theorem zb_abi_Kind : (Try.prog.info? 124).map (fun i => (i.zero, i.size, i.bytes)) = some (some (.int .u8 0), 1, 1) := by kernel_rfl
theorem sz_abi_NameOff : (Try.prog.info? 126).map (·.size) = some 1 := by kernel_rfl
theorem zi_abi_NameOff : (Try.prog.info? 126).map (fun i => (i.zero, i.size)) = some (some (.int .i32 0), 1) := by kernel_rfl
theorem zb_abi_NameOff : (Try.prog.info? 126).map (fun i => (i.zero, i.size, i.bytes)) = some (some (.int .i32 0), 1, 4) := by kernel_rfl
theorem sz_abi_TFlag : (Try.prog.info? 123).map (·.size) = some 1 := by kernel_rfl
theorem zi_abi_TFlag : (Try.prog.info? 123).map (fun i => (i.zero, i.size)) = some (some (.int .u8 0), 1) := by kernel_rfl
theorem zb_abi_TFlag : (Try.prog.info? 123).map (fun i => (i.zero, i.size, i.bytes)) = some (some (.int .u8 0), 1, 1) := by kernel_rfl
theorem sz_abi_Type : (Try.prog.info? 129).map (·.size) = some 11 := by kernel_rfl
theorem zi_abi_Type : (Try.prog.info? 129).map (fun i => (i.zero, i.size)) = some (some (.agg #[.int .u64 0, .int .u64 0, .int .u32 0, .int .u8 0, .int .u8 0, .int .u8 0, .int .u8 0, .nilFunc, .pointer none, .int .i32 0, .int .i32 0]), 11) := by kernel_rfl
theorem zb_abi_Type : (Try.prog.info? 129).map (fun i => (i.zero, i.size, i.bytes)) = some (some (.agg #[.int .u64 0, .int .u64 0, .int .u32 0, .int .u8 0, .int .u8 0, .int .u8 0, .int .u8 0, .nilFunc, .pointer none, .int .i32 0, .int .i32 0]), 11, 48) := by kernel_rfl
theorem ag_abi_Type : Agg Try.prog 129 11 := ⟨_, Try.underlying129, rfl, sz_abi_Type⟩
theorem sz_abi_TypeOff : (Try.prog.info? 127).map (·.size) = some 1 := by kernel_rfl
theorem zi_abi_TypeOff : (Try.prog.info? 127).map (fun i => (i.zero, i.size)) = some (some (.int .i32 0), 1) := by kernel_rfl
theorem zb_abi_TypeOff : (Try.prog.info? 127).map (fun i => (i.zero, i.size, i.bytes)) = some (some (.int .i32 0), 1, 4) := by kernel_rfl
theorem sz_api_Errno : (Try.prog.info? 36).map (·.size) = some 1 := by kernel_rfl
theorem zi_api_Errno : (Try.prog.info? 36).map (fun i => (i.zero, i.size)) = some (some (.int .i64 0), 1) := by kernel_rfl
theorem zb_api_Errno : (Try.prog.info? 36).map (fun i => (i.zero, i.size, i.bytes)) = some (some (.int .i64 0), 1, 8) := by kernel_rfl
theorem sz_api_Geom : (Try.prog.info? 44).map (·.size) = some 4 := by kernel_rfl
theorem zi_api_Geom : (Try.prog.info? 44).map (fun i => (i.zero, i.size)) = some (some (.agg #[.int .i64 0, .int .i64 0, .int .i64 0, .int .i64 0]), 4) := by kernel_rfl
theorem zb_api_Geom : (Try.prog.info? 44).map (fun i => (i.zero, i.size, i.bytes)) = some (some (.agg #[.int .i64 0, .int .i64 0, .int .i64 0, .int .i64 0]), 4, 32) := by kernel_rfl
theorem ag_api_Geom : Agg Try.prog 44 4 := ⟨_, Try.underlying44, rfl, sz_api_Geom⟩
theorem sz_api_Load : (Try.prog.info? 25).map (·.size) = some 6 := by kernel_rfl
theorem zi_api_Load : (Try.prog.info? 25).map (fun i => (i.zero, i.size)) = some (some (.agg #[.int .i64 0, .int .i64 0, .int .i64 0, .int .i64 0, .int .i64 0, .int .i64 0]), 6) := by kernel_rfl
theorem zb_api_Load : (Try.prog.info? 25).map (fun i => (i.zero, i.size, i.bytes)) = some (some (.agg #[.int .i64 0, .int .i64 0, .int .i64 0, .int .i64 0, .int .i64 0, .int .i64 0]), 6, 48) := by kernel_rfl
theorem ag_api_Load : Agg Try.prog 25 6 := ⟨_, Try.underlying25, rfl, sz_api_Load⟩
theorem sz_api_Op : (Try.prog.info? 51).map (·.size) = some 7 := by kernel_rfl
theorem zi_api_Op : (Try.prog.info? 51).map (fun i => (i.zero, i.size)) = some (some (.agg #[.int .i64 0, .int .i64 0, .int .i64 0, .int .i64 0, .int .i64 0, .slice none 0 0, .slice none 0 0]), 7) := by kernel_rfl
theorem zb_api_Op : (Try.prog.info? 51).map (fun i => (i.zero, i.size, i.bytes)) = some (some (.agg #[.int .i64 0, .int .i64 0, .int .i64 0, .int .i64 0, .int .i64 0, .slice none 0 0, .slice none 0 0]), 7, 88) := by kernel_rfl
theorem ag_api_Op : Agg Try.prog 51 7 := ⟨_, Try.underlying51, rfl, sz_api_Op⟩
theorem sz_bool : (Try.prog.info? 4).map (·.size) = some 1 := by kernel_rfl
theorem zi_bool : (Try.prog.info? 4).map (fun i => (i.zero, i.size)) = some (some (.bool false), 1) := by kernel_rfl
theorem zb_bool : (Try.prog.info? 4).map (fun i => (i.zero, i.size, i.bytes)) = some (some (.bool false), 1, 1) := by kernel_rfl
theorem sz_chatelaineref43_Lot : (Try.prog.info? 33).map (·.size) = some 2 := by kernel_rfl
theorem zi_chatelaineref43_Lot : (Try.prog.info? 33).map (fun i => (i.zero, i.size)) = some (some (.agg #[.slice none 0 0, .int .i64 0]), 2) := by kernel_rfl
theorem zb_chatelaineref43_Lot : (Try.prog.info? 33).map (fun i => (i.zero, i.size, i.bytes)) = some (some (.agg #[.slice none 0 0, .int .i64 0]), 2, 32) := by kernel_rfl
theorem ag_chatelaineref43_Lot : Agg Try.prog 33 2 := ⟨_, Try.underlying33, rfl, sz_chatelaineref43_Lot⟩
theorem sz_int : (Try.prog.info? 3).map (·.size) = some 1 := by kernel_rfl
theorem zi_int : (Try.prog.info? 3).map (fun i => (i.zero, i.size)) = some (some (.int .i64 0), 1) := by kernel_rfl
theorem zb_int : (Try.prog.info? 3).map (fun i => (i.zero, i.size, i.bytes)) = some (some (.int .i64 0), 1, 8) := by kernel_rfl
theorem sz_int32 : (Try.prog.info? 21).map (·.size) = some 1 := by kernel_rfl
theorem zi_int32 : (Try.prog.info? 21).map (fun i => (i.zero, i.size)) = some (some (.int .i32 0), 1) := by kernel_rfl
theorem zb_int32 : (Try.prog.info? 21).map (fun i => (i.zero, i.size, i.bytes)) = some (some (.int .i32 0), 1, 4) := by kernel_rfl
theorem sz_int64 : (Try.prog.info? 2).map (·.size) = some 1 := by kernel_rfl
theorem zi_int64 : (Try.prog.info? 2).map (fun i => (i.zero, i.size)) = some (some (.int .i64 0), 1) := by kernel_rfl
theorem zb_int64 : (Try.prog.info? 2).map (fun i => (i.zero, i.size, i.bytes)) = some (some (.int .i64 0), 1, 8) := by kernel_rfl
theorem sz_lot_Lot : (Try.prog.info? 65).map (·.size) = some 3 := by kernel_rfl
theorem zi_lot_Lot : (Try.prog.info? 65).map (fun i => (i.zero, i.size)) = some (some (.agg #[.slice none 0 0, .int .u64 0, .bool false]), 3) := by kernel_rfl
theorem zb_lot_Lot : (Try.prog.info? 65).map (fun i => (i.zero, i.size, i.bytes)) = some (some (.agg #[.slice none 0 0, .int .u64 0, .bool false]), 3, 40) := by kernel_rfl
theorem ag_lot_Lot : Agg Try.prog 65 3 := ⟨_, Try.underlying65, rfl, sz_lot_Lot⟩
theorem sz_maps_unhashableTypeError : (Try.prog.info? 19).map (·.size) = some 1 := by kernel_rfl
theorem zi_maps_unhashableTypeError : (Try.prog.info? 19).map (fun i => (i.zero, i.size)) = some (some (.agg #[.pointer none]), 1) := by kernel_rfl
theorem zb_maps_unhashableTypeError : (Try.prog.info? 19).map (fun i => (i.zero, i.size, i.bytes)) = some (some (.agg #[.pointer none]), 1, 8) := by kernel_rfl
theorem ag_maps_unhashableTypeError : Agg Try.prog 19 1 := ⟨_, Try.underlying19, rfl, sz_maps_unhashableTypeError⟩
theorem sz_runtime_PanicNilError : (Try.prog.info? 122).map (·.size) = some 0 := by kernel_rfl
theorem zi_runtime_PanicNilError : (Try.prog.info? 122).map (fun i => (i.zero, i.size)) = some (some (.agg #[]), 0) := by kernel_rfl
theorem zb_runtime_PanicNilError : (Try.prog.info? 122).map (fun i => (i.zero, i.size, i.bytes)) = some (some (.agg #[]), 0, 0) := by kernel_rfl
theorem ag_runtime_PanicNilError : Agg Try.prog 122 0 := ⟨_, Try.underlying122, rfl, sz_runtime_PanicNilError⟩
theorem sz_runtime_TypeAssertionError : (Try.prog.info? 119).map (·.size) = some 4 := by kernel_rfl
theorem zi_runtime_TypeAssertionError : (Try.prog.info? 119).map (fun i => (i.zero, i.size)) = some (some (.agg #[.pointer none, .pointer none, .pointer none, .string ByteArray.empty]), 4) := by kernel_rfl
theorem zb_runtime_TypeAssertionError : (Try.prog.info? 119).map (fun i => (i.zero, i.size, i.bytes)) = some (some (.agg #[.pointer none, .pointer none, .pointer none, .string ByteArray.empty]), 4, 40) := by kernel_rfl
theorem ag_runtime_TypeAssertionError : Agg Try.prog 119 4 := ⟨_, Try.underlying119, rfl, sz_runtime_TypeAssertionError⟩
theorem sz_runtime_boundsError : (Try.prog.info? 8).map (·.size) = some 4 := by kernel_rfl
theorem zi_runtime_boundsError : (Try.prog.info? 8).map (fun i => (i.zero, i.size)) = some (some (.agg #[.int .i64 0, .int .i64 0, .bool false, .int .u8 0]), 4) := by kernel_rfl
theorem zb_runtime_boundsError : (Try.prog.info? 8).map (fun i => (i.zero, i.size, i.bytes)) = some (some (.agg #[.int .i64 0, .int .i64 0, .bool false, .int .u8 0]), 4, 24) := by kernel_rfl
theorem ag_runtime_boundsError : Agg Try.prog 8 4 := ⟨_, Try.underlying8, rfl, sz_runtime_boundsError⟩
theorem sz_runtime_errorAddressString : (Try.prog.info? 14).map (·.size) = some 2 := by kernel_rfl
theorem zi_runtime_errorAddressString : (Try.prog.info? 14).map (fun i => (i.zero, i.size)) = some (some (.agg #[.string ByteArray.empty, .int .u64 0]), 2) := by kernel_rfl
theorem zb_runtime_errorAddressString : (Try.prog.info? 14).map (fun i => (i.zero, i.size, i.bytes)) = some (some (.agg #[.string ByteArray.empty, .int .u64 0]), 2, 24) := by kernel_rfl
theorem ag_runtime_errorAddressString : Agg Try.prog 14 2 := ⟨_, Try.underlying14, rfl, sz_runtime_errorAddressString⟩
theorem sz_runtime_errorString : (Try.prog.info? 10).map (·.size) = some 1 := by kernel_rfl
theorem zi_runtime_errorString : (Try.prog.info? 10).map (fun i => (i.zero, i.size)) = some (some (.string ByteArray.empty), 1) := by kernel_rfl
theorem zb_runtime_errorString : (Try.prog.info? 10).map (fun i => (i.zero, i.size, i.bytes)) = some (some (.string ByteArray.empty), 1, 16) := by kernel_rfl
theorem sz_runtime_plainError : (Try.prog.info? 11).map (·.size) = some 1 := by kernel_rfl
theorem zi_runtime_plainError : (Try.prog.info? 11).map (fun i => (i.zero, i.size)) = some (some (.string ByteArray.empty), 1) := by kernel_rfl
theorem zb_runtime_plainError : (Try.prog.info? 11).map (fun i => (i.zero, i.size, i.bytes)) = some (some (.string ByteArray.empty), 1, 16) := by kernel_rfl
theorem sz_string : (Try.prog.info? 9).map (·.size) = some 1 := by kernel_rfl
theorem zi_string : (Try.prog.info? 9).map (fun i => (i.zero, i.size)) = some (some (.string ByteArray.empty), 1) := by kernel_rfl
theorem zb_string : (Try.prog.info? 9).map (fun i => (i.zero, i.size, i.bytes)) = some (some (.string ByteArray.empty), 1, 16) := by kernel_rfl
theorem sz_strings_Builder : (Try.prog.info? 82).map (·.size) = some 2 := by kernel_rfl
theorem zi_strings_Builder : (Try.prog.info? 82).map (fun i => (i.zero, i.size)) = some (some (.agg #[.pointer none, .slice none 0 0]), 2) := by kernel_rfl
theorem zb_strings_Builder : (Try.prog.info? 82).map (fun i => (i.zero, i.size, i.bytes)) = some (some (.agg #[.pointer none, .slice none 0 0]), 2, 32) := by kernel_rfl
theorem ag_strings_Builder : Agg Try.prog 82 2 := ⟨_, Try.underlying82, rfl, sz_strings_Builder⟩
theorem sz_StKindint_Tenantint_Spaceint_Nint_Mint_CredSuint8_DataSuint8_ : (Try.prog.info? 50).map (·.size) = some 7 := by kernel_rfl
theorem zi_StKindint_Tenantint_Spaceint_Nint_Mint_CredSuint8_DataSuint8_ : (Try.prog.info? 50).map (fun i => (i.zero, i.size)) = some (some (.agg #[.int .i64 0, .int .i64 0, .int .i64 0, .int .i64 0, .int .i64 0, .slice none 0 0, .slice none 0 0]), 7) := by kernel_rfl
theorem zb_StKindint_Tenantint_Spaceint_Nint_Mint_CredSuint8_DataSuint8_ : (Try.prog.info? 50).map (fun i => (i.zero, i.size, i.bytes)) = some (some (.agg #[.int .i64 0, .int .i64 0, .int .i64 0, .int .i64 0, .int .i64 0, .slice none 0 0, .slice none 0 0]), 7, 88) := by kernel_rfl
theorem ag_StKindint_Tenantint_Spaceint_Nint_Mint_CredSuint8_DataSuint8_ : Agg Try.prog 50 7 := ⟨_, Try.underlying50, rfl, sz_StKindint_Tenantint_Spaceint_Nint_Mint_CredSuint8_DataSuint8_⟩
theorem sz_StOpsint_Tenantsint_Sectorsint_Writesint_Readsint_Erasesint_ : (Try.prog.info? 24).map (·.size) = some 6 := by kernel_rfl
theorem zi_StOpsint_Tenantsint_Sectorsint_Writesint_Readsint_Erasesint_ : (Try.prog.info? 24).map (fun i => (i.zero, i.size)) = some (some (.agg #[.int .i64 0, .int .i64 0, .int .i64 0, .int .i64 0, .int .i64 0, .int .i64 0]), 6) := by kernel_rfl
theorem zb_StOpsint_Tenantsint_Sectorsint_Writesint_Readsint_Erasesint_ : (Try.prog.info? 24).map (fun i => (i.zero, i.size, i.bytes)) = some (some (.agg #[.int .i64 0, .int .i64 0, .int .i64 0, .int .i64 0, .int .i64 0, .int .i64 0]), 6, 48) := by kernel_rfl
theorem ag_StOpsint_Tenantsint_Sectorsint_Writesint_Readsint_Erasesint_ : Agg Try.prog 24 6 := ⟨_, Try.underlying24, rfl, sz_StOpsint_Tenantsint_Sectorsint_Writesint_Readsint_Erasesint_⟩
theorem sz_StSeedSuint8_Atint_ : (Try.prog.info? 32).map (·.size) = some 2 := by kernel_rfl
theorem zi_StSeedSuint8_Atint_ : (Try.prog.info? 32).map (fun i => (i.zero, i.size)) = some (some (.agg #[.slice none 0 0, .int .i64 0]), 2) := by kernel_rfl
theorem zb_StSeedSuint8_Atint_ : (Try.prog.info? 32).map (fun i => (i.zero, i.size, i.bytes)) = some (some (.agg #[.slice none 0 0, .int .i64 0]), 2, 32) := by kernel_rfl
theorem ag_StSeedSuint8_Atint_ : Agg Try.prog 32 2 := ⟨_, Try.underlying32, rfl, sz_StSeedSuint8_Atint_⟩
theorem sz_StSizeint_Tenantsint_Spacesint_Dataint_ : (Try.prog.info? 43).map (·.size) = some 4 := by kernel_rfl
theorem zi_StSizeint_Tenantsint_Spacesint_Dataint_ : (Try.prog.info? 43).map (fun i => (i.zero, i.size)) = some (some (.agg #[.int .i64 0, .int .i64 0, .int .i64 0, .int .i64 0]), 4) := by kernel_rfl
theorem zb_StSizeint_Tenantsint_Spacesint_Dataint_ : (Try.prog.info? 43).map (fun i => (i.zero, i.size, i.bytes)) = some (some (.agg #[.int .i64 0, .int .i64 0, .int .i64 0, .int .i64 0]), 4, 32) := by kernel_rfl
theorem ag_StSizeint_Tenantsint_Spacesint_Dataint_ : Agg Try.prog 43 4 := ⟨_, Try.underlying43, rfl, sz_StSizeint_Tenantsint_Spacesint_Dataint_⟩
theorem sz_StSize_uintptr_PtrBytesuintptr_Hashuint32_TFlagabi_TFlag_Align_uint8_FieldAlign_uint8_Kind_abi_Kind_Equalfunc_unsafe_Pointer_unsafe_Pointer_bool_GCDataPuint8_Strabi_NameOff_PtrToThisabi_TypeOff_ : (Try.prog.info? 128).map (·.size) = some 11 := by kernel_rfl
theorem zi_StSize_uintptr_PtrBytesuintptr_Hashuint32_TFlagabi_TFlag_Align_uint8_FieldAlign_uint8_Kind_abi_Kind_Equalfunc_unsafe_Pointer_unsafe_Pointer_bool_GCDataPuint8_Strabi_NameOff_PtrToThisabi_TypeOff_ : (Try.prog.info? 128).map (fun i => (i.zero, i.size)) = some (some (.agg #[.int .u64 0, .int .u64 0, .int .u32 0, .int .u8 0, .int .u8 0, .int .u8 0, .int .u8 0, .nilFunc, .pointer none, .int .i32 0, .int .i32 0]), 11) := by kernel_rfl
theorem zb_StSize_uintptr_PtrBytesuintptr_Hashuint32_TFlagabi_TFlag_Align_uint8_FieldAlign_uint8_Kind_abi_Kind_Equalfunc_unsafe_Pointer_unsafe_Pointer_bool_GCDataPuint8_Strabi_NameOff_PtrToThisabi_TypeOff_ : (Try.prog.info? 128).map (fun i => (i.zero, i.size, i.bytes)) = some (some (.agg #[.int .u64 0, .int .u64 0, .int .u32 0, .int .u8 0, .int .u8 0, .int .u8 0, .int .u8 0, .nilFunc, .pointer none, .int .i32 0, .int .i32 0]), 11, 48) := by kernel_rfl
theorem ag_StSize_uintptr_PtrBytesuintptr_Hashuint32_TFlagabi_TFlag_Align_uint8_FieldAlign_uint8_Kind_abi_Kind_Equalfunc_unsafe_Pointer_unsafe_Pointer_bool_GCDataPuint8_Strabi_NameOff_PtrToThisabi_TypeOff_ : Agg Try.prog 128 11 := ⟨_, Try.underlying128, rfl, sz_StSize_uintptr_PtrBytesuintptr_Hashuint32_TFlagabi_TFlag_Align_uint8_FieldAlign_uint8_Kind_abi_Kind_Equalfunc_unsafe_Pointer_unsafe_Pointer_bool_GCDataPuint8_Strabi_NameOff_PtrToThisabi_TypeOff_⟩
theorem sz_St_A0_Pruntime_PanicNilError_ : (Try.prog.info? 121).map (·.size) = some 0 := by kernel_rfl
theorem zi_St_A0_Pruntime_PanicNilError_ : (Try.prog.info? 121).map (fun i => (i.zero, i.size)) = some (some (.agg #[]), 0) := by kernel_rfl
theorem zb_St_A0_Pruntime_PanicNilError_ : (Try.prog.info? 121).map (fun i => (i.zero, i.size, i.bytes)) = some (some (.agg #[]), 0, 0) := by kernel_rfl
theorem ag_St_A0_Pruntime_PanicNilError_ : Agg Try.prog 121 0 := ⟨_, Try.underlying121, rfl, sz_St_A0_Pruntime_PanicNilError_⟩
theorem sz_St_interfacePabi_Type_concretePabi_Type_assertedPabi_Type_missingMethodstring_ : (Try.prog.info? 118).map (·.size) = some 4 := by kernel_rfl
theorem zi_St_interfacePabi_Type_concretePabi_Type_assertedPabi_Type_missingMethodstring_ : (Try.prog.info? 118).map (fun i => (i.zero, i.size)) = some (some (.agg #[.pointer none, .pointer none, .pointer none, .string ByteArray.empty]), 4) := by kernel_rfl
theorem zb_St_interfacePabi_Type_concretePabi_Type_assertedPabi_Type_missingMethodstring_ : (Try.prog.info? 118).map (fun i => (i.zero, i.size, i.bytes)) = some (some (.agg #[.pointer none, .pointer none, .pointer none, .string ByteArray.empty]), 4, 40) := by kernel_rfl
theorem ag_St_interfacePabi_Type_concretePabi_Type_assertedPabi_Type_missingMethodstring_ : Agg Try.prog 118 4 := ⟨_, Try.underlying118, rfl, sz_St_interfacePabi_Type_concretePabi_Type_assertedPabi_Type_missingMethodstring_⟩
theorem sz_StaddrPstrings_Builder_bufSuint8_ : (Try.prog.info? 81).map (·.size) = some 2 := by kernel_rfl
theorem zi_StaddrPstrings_Builder_bufSuint8_ : (Try.prog.info? 81).map (fun i => (i.zero, i.size)) = some (some (.agg #[.pointer none, .slice none 0 0]), 2) := by kernel_rfl
theorem zb_StaddrPstrings_Builder_bufSuint8_ : (Try.prog.info? 81).map (fun i => (i.zero, i.size, i.bytes)) = some (some (.agg #[.pointer none, .slice none 0 0]), 2, 32) := by kernel_rfl
theorem ag_StaddrPstrings_Builder_bufSuint8_ : Agg Try.prog 81 2 := ⟨_, Try.underlying81, rfl, sz_StaddrPstrings_Builder_bufSuint8_⟩
theorem sz_Stmsgstring_addruintptr_ : (Try.prog.info? 13).map (·.size) = some 2 := by kernel_rfl
theorem zi_Stmsgstring_addruintptr_ : (Try.prog.info? 13).map (fun i => (i.zero, i.size)) = some (some (.agg #[.string ByteArray.empty, .int .u64 0]), 2) := by kernel_rfl
theorem zb_Stmsgstring_addruintptr_ : (Try.prog.info? 13).map (fun i => (i.zero, i.size, i.bytes)) = some (some (.agg #[.string ByteArray.empty, .int .u64 0]), 2, 24) := by kernel_rfl
theorem ag_Stmsgstring_addruintptr_ : Agg Try.prog 13 2 := ⟨_, Try.underlying13, rfl, sz_Stmsgstring_addruintptr_⟩
theorem sz_StseedSuint8_atuint64_isbool_ : (Try.prog.info? 64).map (·.size) = some 3 := by kernel_rfl
theorem zi_StseedSuint8_atuint64_isbool_ : (Try.prog.info? 64).map (fun i => (i.zero, i.size)) = some (some (.agg #[.slice none 0 0, .int .u64 0, .bool false]), 3) := by kernel_rfl
theorem zb_StseedSuint8_atuint64_isbool_ : (Try.prog.info? 64).map (fun i => (i.zero, i.size, i.bytes)) = some (some (.agg #[.slice none 0 0, .int .u64 0, .bool false]), 3, 40) := by kernel_rfl
theorem ag_StseedSuint8_atuint64_isbool_ : Agg Try.prog 64 3 := ⟨_, Try.underlying64, rfl, sz_StseedSuint8_atuint64_isbool_⟩
theorem sz_SttypPabi_Type_ : (Try.prog.info? 18).map (·.size) = some 1 := by kernel_rfl
theorem zi_SttypPabi_Type_ : (Try.prog.info? 18).map (fun i => (i.zero, i.size)) = some (some (.agg #[.pointer none]), 1) := by kernel_rfl
theorem zb_SttypPabi_Type_ : (Try.prog.info? 18).map (fun i => (i.zero, i.size, i.bytes)) = some (some (.agg #[.pointer none]), 1, 8) := by kernel_rfl
theorem ag_SttypPabi_Type_ : Agg Try.prog 18 1 := ⟨_, Try.underlying18, rfl, sz_SttypPabi_Type_⟩
theorem sz_Stxint64_yint_signedbool_codeabi_BoundsErrorCode_ : (Try.prog.info? 7).map (·.size) = some 4 := by kernel_rfl
theorem zi_Stxint64_yint_signedbool_codeabi_BoundsErrorCode_ : (Try.prog.info? 7).map (fun i => (i.zero, i.size)) = some (some (.agg #[.int .i64 0, .int .i64 0, .bool false, .int .u8 0]), 4) := by kernel_rfl
theorem zb_Stxint64_yint_signedbool_codeabi_BoundsErrorCode_ : (Try.prog.info? 7).map (fun i => (i.zero, i.size, i.bytes)) = some (some (.agg #[.int .i64 0, .int .i64 0, .bool false, .int .u8 0]), 4, 24) := by kernel_rfl
theorem ag_Stxint64_yint_signedbool_codeabi_BoundsErrorCode_ : Agg Try.prog 7 4 := ⟨_, Try.underlying7, rfl, sz_Stxint64_yint_signedbool_codeabi_BoundsErrorCode_⟩
theorem sz_uint : (Try.prog.info? 71).map (·.size) = some 1 := by kernel_rfl
theorem zi_uint : (Try.prog.info? 71).map (fun i => (i.zero, i.size)) = some (some (.int .u64 0), 1) := by kernel_rfl
theorem zb_uint : (Try.prog.info? 71).map (fun i => (i.zero, i.size, i.bytes)) = some (some (.int .u64 0), 1, 8) := by kernel_rfl
theorem sz_uint32 : (Try.prog.info? 88).map (·.size) = some 1 := by kernel_rfl
theorem zi_uint32 : (Try.prog.info? 88).map (fun i => (i.zero, i.size)) = some (some (.int .u32 0), 1) := by kernel_rfl
theorem zb_uint32 : (Try.prog.info? 88).map (fun i => (i.zero, i.size, i.bytes)) = some (some (.int .u32 0), 1, 4) := by kernel_rfl
theorem sz_uint64 : (Try.prog.info? 63).map (·.size) = some 1 := by kernel_rfl
theorem zi_uint64 : (Try.prog.info? 63).map (fun i => (i.zero, i.size)) = some (some (.int .u64 0), 1) := by kernel_rfl
theorem zb_uint64 : (Try.prog.info? 63).map (fun i => (i.zero, i.size, i.bytes)) = some (some (.int .u64 0), 1, 8) := by kernel_rfl
theorem sz_uint8 : (Try.prog.info? 5).map (·.size) = some 1 := by kernel_rfl
theorem zi_uint8 : (Try.prog.info? 5).map (fun i => (i.zero, i.size)) = some (some (.int .u8 0), 1) := by kernel_rfl
theorem zb_uint8 : (Try.prog.info? 5).map (fun i => (i.zero, i.size, i.bytes)) = some (some (.int .u8 0), 1, 1) := by kernel_rfl
theorem sz_uintptr : (Try.prog.info? 12).map (·.size) = some 1 := by kernel_rfl
theorem zi_uintptr : (Try.prog.info? 12).map (fun i => (i.zero, i.size)) = some (some (.int .u64 0), 1) := by kernel_rfl
theorem zb_uintptr : (Try.prog.info? 12).map (fun i => (i.zero, i.size, i.bytes)) = some (some (.int .u64 0), 1, 8) := by kernel_rfl
theorem sz_unsafe_Pointer : (Try.prog.info? 115).map (·.size) = some 1 := by kernel_rfl
theorem zi_unsafe_Pointer : (Try.prog.info? 115).map (fun i => (i.zero, i.size)) = some (some (.pointer none), 1) := by kernel_rfl
theorem zb_unsafe_Pointer : (Try.prog.info? 115).map (fun i => (i.zero, i.size, i.bytes)) = some (some (.pointer none), 1, 8) := by kernel_rfl
end Go.Proofs.Ytcjleeclpmgbjaa
