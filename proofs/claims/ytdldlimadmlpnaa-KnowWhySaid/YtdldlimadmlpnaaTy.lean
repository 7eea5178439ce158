/- Facts on types: how many cells, the zero value. -/
import Derived.Test.YtdldlimadmlpnaaInt
namespace Go.Proofs.Ytdldlimadmlpnaa
open Go.RowKit
theorem sz_Pabi_Type : (Try.prog.info? 17).map (·.size) = some 1 := by kernel_rfl
theorem zi_Pabi_Type : (Try.prog.info? 17).map (fun i => (i.zero, i.size)) = some (some (.pointer none), 1) := by kernel_rfl
theorem zb_Pabi_Type : (Try.prog.info? 17).map (fun i => (i.zero, i.size, i.bytes)) = some (some (.pointer none), 1, 8) := by kernel_rfl
theorem sz_Pint : (Try.prog.info? 92).map (·.size) = some 1 := by kernel_rfl
theorem zi_Pint : (Try.prog.info? 92).map (fun i => (i.zero, i.size)) = some (some (.pointer none), 1) := by kernel_rfl
theorem zb_Pint : (Try.prog.info? 92).map (fun i => (i.zero, i.size, i.bytes)) = some (some (.pointer none), 1, 8) := by kernel_rfl
theorem sz_Pknow_Set : (Try.prog.info? 35).map (·.size) = some 1 := by kernel_rfl
theorem zi_Pknow_Set : (Try.prog.info? 35).map (fun i => (i.zero, i.size)) = some (some (.pointer none), 1) := by kernel_rfl
theorem zb_Pknow_Set : (Try.prog.info? 35).map (fun i => (i.zero, i.size, i.bytes)) = some (some (.pointer none), 1, 8) := by kernel_rfl
theorem sz_Pruntime_PanicNilError : (Try.prog.info? 16).map (·.size) = some 1 := by kernel_rfl
theorem zi_Pruntime_PanicNilError : (Try.prog.info? 16).map (fun i => (i.zero, i.size)) = some (some (.pointer none), 1) := by kernel_rfl
theorem zb_Pruntime_PanicNilError : (Try.prog.info? 16).map (fun i => (i.zero, i.size, i.bytes)) = some (some (.pointer none), 1, 8) := by kernel_rfl
theorem sz_Pruntime_TypeAssertionError : (Try.prog.info? 15).map (·.size) = some 1 := by kernel_rfl
theorem zi_Pruntime_TypeAssertionError : (Try.prog.info? 15).map (fun i => (i.zero, i.size)) = some (some (.pointer none), 1) := by kernel_rfl
theorem zb_Pruntime_TypeAssertionError : (Try.prog.info? 15).map (fun i => (i.zero, i.size, i.bytes)) = some (some (.pointer none), 1, 8) := by kernel_rfl
theorem sz_Pslices_xorshift : (Try.prog.info? 94).map (·.size) = some 1 := by kernel_rfl
theorem zi_Pslices_xorshift : (Try.prog.info? 94).map (fun i => (i.zero, i.size)) = some (some (.pointer none), 1) := by kernel_rfl
theorem zb_Pslices_xorshift : (Try.prog.info? 94).map (fun i => (i.zero, i.size, i.bytes)) = some (some (.pointer none), 1, 8) := by kernel_rfl
theorem sz_Pterm_Store : (Try.prog.info? 25).map (·.size) = some 1 := by kernel_rfl
theorem zi_Pterm_Store : (Try.prog.info? 25).map (fun i => (i.zero, i.size)) = some (some (.pointer none), 1) := by kernel_rfl
theorem zb_Pterm_Store : (Try.prog.info? 25).map (fun i => (i.zero, i.size, i.bytes)) = some (some (.pointer none), 1, 8) := by kernel_rfl
theorem sz_Puint8 : (Try.prog.info? 106).map (·.size) = some 1 := by kernel_rfl
theorem zi_Puint8 : (Try.prog.info? 106).map (fun i => (i.zero, i.size)) = some (some (.pointer none), 1) := by kernel_rfl
theorem zb_Puint8 : (Try.prog.info? 106).map (fun i => (i.zero, i.size, i.bytes)) = some (some (.pointer none), 1, 8) := by kernel_rfl
theorem sz_A0_Pruntime_PanicNilError : (Try.prog.info? 100).map (·.size) = some 0 := by kernel_rfl
theorem zi_A0_Pruntime_PanicNilError : (Try.prog.info? 100).map (fun i => (i.zero, i.size)) = some (some (.agg #[]), 0) := by kernel_rfl
theorem zb_A0_Pruntime_PanicNilError : (Try.prog.info? 100).map (fun i => (i.zero, i.size, i.bytes)) = some (some (.agg #[]), 0, 0) := by kernel_rfl
theorem ag_A0_Pruntime_PanicNilError : Agg Try.prog 100 0 := ⟨_, Try.underlying100, rfl, sz_A0_Pruntime_PanicNilError⟩
theorem sz_SSint : (Try.prog.info? 70).map (·.size) = some 1 := by kernel_rfl
theorem zi_SSint : (Try.prog.info? 70).map (fun i => (i.zero, i.size)) = some (some (.slice none 0 0), 1) := by kernel_rfl
theorem zb_SSint : (Try.prog.info? 70).map (fun i => (i.zero, i.size, i.bytes)) = some (some (.slice none 0 0), 1, 24) := by kernel_rfl
theorem sz_Sapi_Term : (Try.prog.info? 22).map (·.size) = some 1 := by kernel_rfl
theorem zi_Sapi_Term : (Try.prog.info? 22).map (fun i => (i.zero, i.size)) = some (some (.slice none 0 0), 1) := by kernel_rfl
theorem zb_Sapi_Term : (Try.prog.info? 22).map (fun i => (i.zero, i.size, i.bytes)) = some (some (.slice none 0 0), 1, 24) := by kernel_rfl
theorem sz_Sbool : (Try.prog.info? 30).map (·.size) = some 1 := by kernel_rfl
theorem zi_Sbool : (Try.prog.info? 30).map (fun i => (i.zero, i.size)) = some (some (.slice none 0 0), 1) := by kernel_rfl
theorem zb_Sbool : (Try.prog.info? 30).map (fun i => (i.zero, i.size, i.bytes)) = some (some (.slice none 0 0), 1, 24) := by kernel_rfl
theorem sz_Sint : (Try.prog.info? 23).map (·.size) = some 1 := by kernel_rfl
theorem zi_Sint : (Try.prog.info? 23).map (fun i => (i.zero, i.size)) = some (some (.slice none 0 0), 1) := by kernel_rfl
theorem zb_Sint : (Try.prog.info? 23).map (fun i => (i.zero, i.size, i.bytes)) = some (some (.slice none 0 0), 1, 24) := by kernel_rfl
theorem sz_abi_BoundsErrorCode : (Try.prog.info? 6).map (·.size) = some 1 := by kernel_rfl
theorem zi_abi_BoundsErrorCode : (Try.prog.info? 6).map (fun i => (i.zero, i.size)) = some (some (.int .u8 0), 1) := by kernel_rfl
theorem zb_abi_BoundsErrorCode : (Try.prog.info? 6).map (fun i => (i.zero, i.size, i.bytes)) = some (some (.int .u8 0), 1, 1) := by kernel_rfl
theorem sz_abi_Kind : (Try.prog.info? 104).map (·.size) = some 1 := by kernel_rfl
theorem zi_abi_Kind : (Try.prog.info? 104).map (fun i => (i.zero, i.size)) = some (some (.int .u8 0), 1) := by kernel_rfl
theorem zb_abi_Kind : (Try.prog.info? 104).map (fun i => (i.zero, i.size, i.bytes)) = some (some (.int .u8 0), 1, 1) := by kernel_rfl
theorem sz_abi_NameOff : (Try.prog.info? 107).map (·.size) = some 1 := by kernel_rfl
theorem zi_abi_NameOff : (Try.prog.info? 107).map (fun i => (i.zero, i.size)) = some (some (.int .i32 0), 1) := by kernel_rfl
theorem zb_abi_NameOff : (Try.prog.info? 107).map (fun i => (i.zero, i.size, i.bytes)) = some (some (.int .i32 0), 1, 4) := by kernel_rfl
theorem sz_abi_TFlag : (Try.prog.info? 103).map (·.size) = some 1 := by kernel_rfl
theorem zi_abi_TFlag : (Try.prog.info? 103).map (fun i => (i.zero, i.size)) = some (some (.int .u8 0), 1) := by kernel_rfl
theorem zb_abi_TFlag : (Try.prog.info? 103).map (fun i => (i.zero, i.size, i.bytes)) = some (some (.int .u8 0), 1, 1) := by kernel_rfl
theorem sz_abi_Type : (Try.prog.info? 110).map (·.size) = some 11 := by kernel_rfl
theorem zi_abi_Type : (Try.prog.info? 110).map (fun i => (i.zero, i.size)) = some (some (.agg #[.int .u64 0, .int .u64 0, .int .u32 0, .int .u8 0, .int .u8 0, .int .u8 0, .int .u8 0, .nilFunc, .pointer none, .int .i32 0, .int .i32 0]), 11) := by kernel_rfl
theorem zb_abi_Type : (Try.prog.info? 110).map (fun i => (i.zero, i.size, i.bytes)) = some (some (.agg #[.int .u64 0, .int .u64 0, .int .u32 0, .int .u8 0, .int .u8 0, .int .u8 0, .int .u8 0, .nilFunc, .pointer none, .int .i32 0, .int .i32 0]), 11, 48) := by kernel_rfl
theorem ag_abi_Type : Agg Try.prog 110 11 := ⟨_, Try.underlying110, rfl, sz_abi_Type⟩
theorem sz_abi_TypeOff : (Try.prog.info? 108).map (·.size) = some 1 := by kernel_rfl
theorem zi_abi_TypeOff : (Try.prog.info? 108).map (fun i => (i.zero, i.size)) = some (some (.int .i32 0), 1) := by kernel_rfl
theorem zb_abi_TypeOff : (Try.prog.info? 108).map (fun i => (i.zero, i.size, i.bytes)) = some (some (.int .i32 0), 1, 4) := by kernel_rfl
theorem sz_api_Errno : (Try.prog.info? 36).map (·.size) = some 1 := by kernel_rfl
theorem zi_api_Errno : (Try.prog.info? 36).map (fun i => (i.zero, i.size)) = some (some (.int .i64 0), 1) := by kernel_rfl
theorem zb_api_Errno : (Try.prog.info? 36).map (fun i => (i.zero, i.size, i.bytes)) = some (some (.int .i64 0), 1, 8) := by kernel_rfl
theorem sz_api_Term : (Try.prog.info? 33).map (·.size) = some 3 := by kernel_rfl
theorem zi_api_Term : (Try.prog.info? 33).map (fun i => (i.zero, i.size)) = some (some (.agg #[.int .i64 0, .int .i64 0, .int .i64 0]), 3) := by kernel_rfl
theorem zb_api_Term : (Try.prog.info? 33).map (fun i => (i.zero, i.size, i.bytes)) = some (some (.agg #[.int .i64 0, .int .i64 0, .int .i64 0]), 3, 24) := by kernel_rfl
theorem ag_api_Term : Agg Try.prog 33 3 := ⟨_, Try.underlying33, rfl, sz_api_Term⟩
theorem sz_bool : (Try.prog.info? 4).map (·.size) = some 1 := by kernel_rfl
theorem zi_bool : (Try.prog.info? 4).map (fun i => (i.zero, i.size)) = some (some (.bool false), 1) := by kernel_rfl
theorem zb_bool : (Try.prog.info? 4).map (fun i => (i.zero, i.size, i.bytes)) = some (some (.bool false), 1, 1) := by kernel_rfl
theorem sz_int : (Try.prog.info? 3).map (·.size) = some 1 := by kernel_rfl
theorem zi_int : (Try.prog.info? 3).map (fun i => (i.zero, i.size)) = some (some (.int .i64 0), 1) := by kernel_rfl
theorem zb_int : (Try.prog.info? 3).map (fun i => (i.zero, i.size, i.bytes)) = some (some (.int .i64 0), 1, 8) := by kernel_rfl
theorem sz_int32 : (Try.prog.info? 21).map (·.size) = some 1 := by kernel_rfl
theorem zi_int32 : (Try.prog.info? 21).map (fun i => (i.zero, i.size)) = some (some (.int .i32 0), 1) := by kernel_rfl
theorem zb_int32 : (Try.prog.info? 21).map (fun i => (i.zero, i.size, i.bytes)) = some (some (.int .i32 0), 1, 4) := by kernel_rfl
theorem sz_int64 : (Try.prog.info? 2).map (·.size) = some 1 := by kernel_rfl
theorem zi_int64 : (Try.prog.info? 2).map (fun i => (i.zero, i.size)) = some (some (.int .i64 0), 1) := by kernel_rfl
theorem zb_int64 : (Try.prog.info? 2).map (fun i => (i.zero, i.size, i.bytes)) = some (some (.int .i64 0), 1, 8) := by kernel_rfl
theorem sz_know_Set : (Try.prog.info? 52).map (·.size) = some 4 := by kernel_rfl
theorem zi_know_Set : (Try.prog.info? 52).map (fun i => (i.zero, i.size)) = some (some (.agg #[.slice none 0 0, .slice none 0 0, .slice none 0 0, .bool false]), 4) := by kernel_rfl
theorem zb_know_Set : (Try.prog.info? 52).map (fun i => (i.zero, i.size, i.bytes)) = some (some (.agg #[.slice none 0 0, .slice none 0 0, .slice none 0 0, .bool false]), 4, 80) := by kernel_rfl
theorem ag_know_Set : Agg Try.prog 52 4 := ⟨_, Try.underlying52, rfl, sz_know_Set⟩
theorem sz_M_api_Term_int : (Try.prog.info? 56).map (·.size) = some 1 := by kernel_rfl
theorem zi_M_api_Term_int : (Try.prog.info? 56).map (fun i => (i.zero, i.size)) = some (some (.map none), 1) := by kernel_rfl
theorem zb_M_api_Term_int : (Try.prog.info? 56).map (fun i => (i.zero, i.size, i.bytes)) = some (some (.map none), 1, 8) := by kernel_rfl
theorem sz_M_int_int : (Try.prog.info? 57).map (·.size) = some 1 := by kernel_rfl
theorem zi_M_int_int : (Try.prog.info? 57).map (fun i => (i.zero, i.size)) = some (some (.map none), 1) := by kernel_rfl
theorem zb_M_int_int : (Try.prog.info? 57).map (fun i => (i.zero, i.size, i.bytes)) = some (some (.map none), 1, 8) := by kernel_rfl
theorem sz_maps_unhashableTypeError : (Try.prog.info? 19).map (·.size) = some 1 := by kernel_rfl
theorem zi_maps_unhashableTypeError : (Try.prog.info? 19).map (fun i => (i.zero, i.size)) = some (some (.agg #[.pointer none]), 1) := by kernel_rfl
theorem zb_maps_unhashableTypeError : (Try.prog.info? 19).map (fun i => (i.zero, i.size, i.bytes)) = some (some (.agg #[.pointer none]), 1, 8) := by kernel_rfl
theorem ag_maps_unhashableTypeError : Agg Try.prog 19 1 := ⟨_, Try.underlying19, rfl, sz_maps_unhashableTypeError⟩
theorem sz_runtime_PanicNilError : (Try.prog.info? 102).map (·.size) = some 0 := by kernel_rfl
theorem zi_runtime_PanicNilError : (Try.prog.info? 102).map (fun i => (i.zero, i.size)) = some (some (.agg #[]), 0) := by kernel_rfl
theorem zb_runtime_PanicNilError : (Try.prog.info? 102).map (fun i => (i.zero, i.size, i.bytes)) = some (some (.agg #[]), 0, 0) := by kernel_rfl
theorem ag_runtime_PanicNilError : Agg Try.prog 102 0 := ⟨_, Try.underlying102, rfl, sz_runtime_PanicNilError⟩
theorem sz_runtime_TypeAssertionError : (Try.prog.info? 99).map (·.size) = some 4 := by kernel_rfl
theorem zi_runtime_TypeAssertionError : (Try.prog.info? 99).map (fun i => (i.zero, i.size)) = some (some (.agg #[.pointer none, .pointer none, .pointer none, .string ByteArray.empty]), 4) := by kernel_rfl
theorem zb_runtime_TypeAssertionError : (Try.prog.info? 99).map (fun i => (i.zero, i.size, i.bytes)) = some (some (.agg #[.pointer none, .pointer none, .pointer none, .string ByteArray.empty]), 4, 40) := by kernel_rfl
theorem ag_runtime_TypeAssertionError : Agg Try.prog 99 4 := ⟨_, Try.underlying99, rfl, sz_runtime_TypeAssertionError⟩
theorem sz_runtime_boundsError : (Try.prog.info? 8).map (·.size) = some 4 := by kernel_rfl
theorem zi_runtime_boundsError : (Try.prog.info? 8).map (fun i => (i.zero, i.size)) = some (some (.agg #[.int .i64 0, .int .i64 0, .bool false, .int .u8 0]), 4) := by kernel_rfl
theorem zb_runtime_boundsError : (Try.prog.info? 8).map (fun i => (i.zero, i.size, i.bytes)) = some (some (.agg #[.int .i64 0, .int .i64 0, .bool false, .int .u8 0]), 4, 24) := by kernel_rfl
theorem ag_runtime_boundsError : Agg Try.prog 8 4 := ⟨_, Try.underlying8, rfl, sz_runtime_boundsError⟩
theorem sz_runtime_errorAddressString : (Try.prog.info? 14).map (·.size) = some 2 := by kernel_rfl
theorem zi_runtime_errorAddressString : (Try.prog.info? 14).map (fun i => (i.zero, i.size)) = some (some (.agg #[.string ByteArray.empty, .int .u64 0]), 2) := by kernel_rfl
theorem zb_runtime_errorAddressString : (Try.prog.info? 14).map (fun i => (i.zero, i.size, i.bytes)) = some (some (.agg #[.string ByteArray.empty, .int .u64 0]), 2, 24) := by kernel_rfl
theorem ag_runtime_errorAddressString : Agg Try.prog 14 2 := ⟨_, Try.underlying14, rfl, sz_runtime_errorAddressString⟩
theorem sz_runtime_errorString : (Try.prog.info? 10).map (·.size) = some 1 := by kernel_rfl
theorem zi_runtime_errorString : (Try.prog.info? 10).map (fun i => (i.zero, i.size)) = some (some (.string ByteArray.empty), 1) := by kernel_rfl
theorem zb_runtime_errorString : (Try.prog.info? 10).map (fun i => (i.zero, i.size, i.bytes)) = some (some (.string ByteArray.empty), 1, 16) := by kernel_rfl
theorem sz_runtime_plainError : (Try.prog.info? 11).map (·.size) = some 1 := by kernel_rfl
theorem zi_runtime_plainError : (Try.prog.info? 11).map (fun i => (i.zero, i.size)) = some (some (.string ByteArray.empty), 1) := by kernel_rfl
theorem zb_runtime_plainError : (Try.prog.info? 11).map (fun i => (i.zero, i.size, i.bytes)) = some (some (.string ByteArray.empty), 1, 16) := by kernel_rfl
theorem sz_slices_sortedHint : (Try.prog.info? 77).map (·.size) = some 1 := by kernel_rfl
theorem zi_slices_sortedHint : (Try.prog.info? 77).map (fun i => (i.zero, i.size)) = some (some (.int .i64 0), 1) := by kernel_rfl
theorem zb_slices_sortedHint : (Try.prog.info? 77).map (fun i => (i.zero, i.size, i.bytes)) = some (some (.int .i64 0), 1, 8) := by kernel_rfl
theorem sz_slices_xorshift : (Try.prog.info? 88).map (·.size) = some 1 := by kernel_rfl
theorem zi_slices_xorshift : (Try.prog.info? 88).map (fun i => (i.zero, i.size)) = some (some (.int .u64 0), 1) := by kernel_rfl
theorem zb_slices_xorshift : (Try.prog.info? 88).map (fun i => (i.zero, i.size, i.bytes)) = some (some (.int .u64 0), 1, 8) := by kernel_rfl
theorem sz_string : (Try.prog.info? 9).map (·.size) = some 1 := by kernel_rfl
theorem zi_string : (Try.prog.info? 9).map (fun i => (i.zero, i.size)) = some (some (.string ByteArray.empty), 1) := by kernel_rfl
theorem zb_string : (Try.prog.info? 9).map (fun i => (i.zero, i.size, i.bytes)) = some (some (.string ByteArray.empty), 1, 16) := by kernel_rfl
theorem sz_StKindint_Aint_Bint_ : (Try.prog.info? 32).map (·.size) = some 3 := by kernel_rfl
theorem zi_StKindint_Aint_Bint_ : (Try.prog.info? 32).map (fun i => (i.zero, i.size)) = some (some (.agg #[.int .i64 0, .int .i64 0, .int .i64 0]), 3) := by kernel_rfl
theorem zb_StKindint_Aint_Bint_ : (Try.prog.info? 32).map (fun i => (i.zero, i.size, i.bytes)) = some (some (.agg #[.int .i64 0, .int .i64 0, .int .i64 0]), 3, 24) := by kernel_rfl
theorem ag_StKindint_Aint_Bint_ : Agg Try.prog 32 3 := ⟨_, Try.underlying32, rfl, sz_StKindint_Aint_Bint_⟩
theorem sz_StSize_uintptr_PtrBytesuintptr_Hashuint32_TFlagabi_TFlag_Align_uint8_FieldAlign_uint8_Kind_abi_Kind_Equalfunc_unsafe_Pointer_unsafe_Pointer_bool_GCDataPuint8_Strabi_NameOff_PtrToThisabi_TypeOff_ : (Try.prog.info? 109).map (·.size) = some 11 := by kernel_rfl
theorem zi_StSize_uintptr_PtrBytesuintptr_Hashuint32_TFlagabi_TFlag_Align_uint8_FieldAlign_uint8_Kind_abi_Kind_Equalfunc_unsafe_Pointer_unsafe_Pointer_bool_GCDataPuint8_Strabi_NameOff_PtrToThisabi_TypeOff_ : (Try.prog.info? 109).map (fun i => (i.zero, i.size)) = some (some (.agg #[.int .u64 0, .int .u64 0, .int .u32 0, .int .u8 0, .int .u8 0, .int .u8 0, .int .u8 0, .nilFunc, .pointer none, .int .i32 0, .int .i32 0]), 11) := by kernel_rfl
theorem zb_StSize_uintptr_PtrBytesuintptr_Hashuint32_TFlagabi_TFlag_Align_uint8_FieldAlign_uint8_Kind_abi_Kind_Equalfunc_unsafe_Pointer_unsafe_Pointer_bool_GCDataPuint8_Strabi_NameOff_PtrToThisabi_TypeOff_ : (Try.prog.info? 109).map (fun i => (i.zero, i.size, i.bytes)) = some (some (.agg #[.int .u64 0, .int .u64 0, .int .u32 0, .int .u8 0, .int .u8 0, .int .u8 0, .int .u8 0, .nilFunc, .pointer none, .int .i32 0, .int .i32 0]), 11, 48) := by kernel_rfl
theorem ag_StSize_uintptr_PtrBytesuintptr_Hashuint32_TFlagabi_TFlag_Align_uint8_FieldAlign_uint8_Kind_abi_Kind_Equalfunc_unsafe_Pointer_unsafe_Pointer_bool_GCDataPuint8_Strabi_NameOff_PtrToThisabi_TypeOff_ : Agg Try.prog 109 11 := ⟨_, Try.underlying109, rfl, sz_StSize_uintptr_PtrBytesuintptr_Hashuint32_TFlagabi_TFlag_Align_uint8_FieldAlign_uint8_Kind_abi_Kind_Equalfunc_unsafe_Pointer_unsafe_Pointer_bool_GCDataPuint8_Strabi_NameOff_PtrToThisabi_TypeOff_⟩
theorem sz_St_A0_Pruntime_PanicNilError_ : (Try.prog.info? 101).map (·.size) = some 0 := by kernel_rfl
theorem zi_St_A0_Pruntime_PanicNilError_ : (Try.prog.info? 101).map (fun i => (i.zero, i.size)) = some (some (.agg #[]), 0) := by kernel_rfl
theorem zb_St_A0_Pruntime_PanicNilError_ : (Try.prog.info? 101).map (fun i => (i.zero, i.size, i.bytes)) = some (some (.agg #[]), 0, 0) := by kernel_rfl
theorem ag_St_A0_Pruntime_PanicNilError_ : Agg Try.prog 101 0 := ⟨_, Try.underlying101, rfl, sz_St_A0_Pruntime_PanicNilError_⟩
theorem sz_St_interfacePabi_Type_concretePabi_Type_assertedPabi_Type_missingMethodstring_ : (Try.prog.info? 98).map (·.size) = some 4 := by kernel_rfl
theorem zi_St_interfacePabi_Type_concretePabi_Type_assertedPabi_Type_missingMethodstring_ : (Try.prog.info? 98).map (fun i => (i.zero, i.size)) = some (some (.agg #[.pointer none, .pointer none, .pointer none, .string ByteArray.empty]), 4) := by kernel_rfl
theorem zb_St_interfacePabi_Type_concretePabi_Type_assertedPabi_Type_missingMethodstring_ : (Try.prog.info? 98).map (fun i => (i.zero, i.size, i.bytes)) = some (some (.agg #[.pointer none, .pointer none, .pointer none, .string ByteArray.empty]), 4, 40) := by kernel_rfl
theorem ag_St_interfacePabi_Type_concretePabi_Type_assertedPabi_Type_missingMethodstring_ : Agg Try.prog 98 4 := ⟨_, Try.underlying98, rfl, sz_St_interfacePabi_Type_concretePabi_Type_assertedPabi_Type_missingMethodstring_⟩
theorem sz_StlSapi_Term_placesM_api_Term_int_sortsM_int_int_ : (Try.prog.info? 58).map (·.size) = some 3 := by kernel_rfl
theorem zi_StlSapi_Term_placesM_api_Term_int_sortsM_int_int_ : (Try.prog.info? 58).map (fun i => (i.zero, i.size)) = some (some (.agg #[.slice none 0 0, .map none, .map none]), 3) := by kernel_rfl
theorem zb_StlSapi_Term_placesM_api_Term_int_sortsM_int_int_ : (Try.prog.info? 58).map (fun i => (i.zero, i.size, i.bytes)) = some (some (.agg #[.slice none 0 0, .map none, .map none]), 3, 40) := by kernel_rfl
theorem ag_StlSapi_Term_placesM_api_Term_int_sortsM_int_int_ : Agg Try.prog 58 3 := ⟨_, Try.underlying58, rfl, sz_StlSapi_Term_placesM_api_Term_int_sortsM_int_int_⟩
theorem sz_Stmsgstring_addruintptr_ : (Try.prog.info? 13).map (·.size) = some 2 := by kernel_rfl
theorem zi_Stmsgstring_addruintptr_ : (Try.prog.info? 13).map (fun i => (i.zero, i.size)) = some (some (.agg #[.string ByteArray.empty, .int .u64 0]), 2) := by kernel_rfl
theorem zb_Stmsgstring_addruintptr_ : (Try.prog.info? 13).map (fun i => (i.zero, i.size, i.bytes)) = some (some (.agg #[.string ByteArray.empty, .int .u64 0]), 2, 24) := by kernel_rfl
theorem ag_Stmsgstring_addruintptr_ : Agg Try.prog 13 2 := ⟨_, Try.underlying13, rfl, sz_Stmsgstring_addruintptr_⟩
theorem sz_SttermsSapi_Term_isSbool_orderSint_frombool_ : (Try.prog.info? 51).map (·.size) = some 4 := by kernel_rfl
theorem zi_SttermsSapi_Term_isSbool_orderSint_frombool_ : (Try.prog.info? 51).map (fun i => (i.zero, i.size)) = some (some (.agg #[.slice none 0 0, .slice none 0 0, .slice none 0 0, .bool false]), 4) := by kernel_rfl
theorem zb_SttermsSapi_Term_isSbool_orderSint_frombool_ : (Try.prog.info? 51).map (fun i => (i.zero, i.size, i.bytes)) = some (some (.agg #[.slice none 0 0, .slice none 0 0, .slice none 0 0, .bool false]), 4, 80) := by kernel_rfl
theorem ag_SttermsSapi_Term_isSbool_orderSint_frombool_ : Agg Try.prog 51 4 := ⟨_, Try.underlying51, rfl, sz_SttermsSapi_Term_isSbool_orderSint_frombool_⟩
theorem sz_SttypPabi_Type_ : (Try.prog.info? 18).map (·.size) = some 1 := by kernel_rfl
theorem zi_SttypPabi_Type_ : (Try.prog.info? 18).map (fun i => (i.zero, i.size)) = some (some (.agg #[.pointer none]), 1) := by kernel_rfl
theorem zb_SttypPabi_Type_ : (Try.prog.info? 18).map (fun i => (i.zero, i.size, i.bytes)) = some (some (.agg #[.pointer none]), 1, 8) := by kernel_rfl
theorem ag_SttypPabi_Type_ : Agg Try.prog 18 1 := ⟨_, Try.underlying18, rfl, sz_SttypPabi_Type_⟩
theorem sz_Stxint64_yint_signedbool_codeabi_BoundsErrorCode_ : (Try.prog.info? 7).map (·.size) = some 4 := by kernel_rfl
theorem zi_Stxint64_yint_signedbool_codeabi_BoundsErrorCode_ : (Try.prog.info? 7).map (fun i => (i.zero, i.size)) = some (some (.agg #[.int .i64 0, .int .i64 0, .bool false, .int .u8 0]), 4) := by kernel_rfl
theorem zb_Stxint64_yint_signedbool_codeabi_BoundsErrorCode_ : (Try.prog.info? 7).map (fun i => (i.zero, i.size, i.bytes)) = some (some (.agg #[.int .i64 0, .int .i64 0, .bool false, .int .u8 0]), 4, 24) := by kernel_rfl
theorem ag_Stxint64_yint_signedbool_codeabi_BoundsErrorCode_ : Agg Try.prog 7 4 := ⟨_, Try.underlying7, rfl, sz_Stxint64_yint_signedbool_codeabi_BoundsErrorCode_⟩
theorem sz_term_Store : (Try.prog.info? 59).map (·.size) = some 3 := by kernel_rfl
theorem zi_term_Store : (Try.prog.info? 59).map (fun i => (i.zero, i.size)) = some (some (.agg #[.slice none 0 0, .map none, .map none]), 3) := by kernel_rfl
theorem zb_term_Store : (Try.prog.info? 59).map (fun i => (i.zero, i.size, i.bytes)) = some (some (.agg #[.slice none 0 0, .map none, .map none]), 3, 40) := by kernel_rfl
theorem ag_term_Store : Agg Try.prog 59 3 := ⟨_, Try.underlying59, rfl, sz_term_Store⟩
theorem sz_uint : (Try.prog.info? 75).map (·.size) = some 1 := by kernel_rfl
theorem zi_uint : (Try.prog.info? 75).map (fun i => (i.zero, i.size)) = some (some (.int .u64 0), 1) := by kernel_rfl
theorem zb_uint : (Try.prog.info? 75).map (fun i => (i.zero, i.size, i.bytes)) = some (some (.int .u64 0), 1, 8) := by kernel_rfl
theorem sz_uint32 : (Try.prog.info? 85).map (·.size) = some 1 := by kernel_rfl
theorem zi_uint32 : (Try.prog.info? 85).map (fun i => (i.zero, i.size)) = some (some (.int .u32 0), 1) := by kernel_rfl
theorem zb_uint32 : (Try.prog.info? 85).map (fun i => (i.zero, i.size, i.bytes)) = some (some (.int .u32 0), 1, 4) := by kernel_rfl
theorem sz_uint64 : (Try.prog.info? 87).map (·.size) = some 1 := by kernel_rfl
theorem zi_uint64 : (Try.prog.info? 87).map (fun i => (i.zero, i.size)) = some (some (.int .u64 0), 1) := by kernel_rfl
theorem zb_uint64 : (Try.prog.info? 87).map (fun i => (i.zero, i.size, i.bytes)) = some (some (.int .u64 0), 1, 8) := by kernel_rfl
theorem sz_uint8 : (Try.prog.info? 5).map (·.size) = some 1 := by kernel_rfl
theorem zi_uint8 : (Try.prog.info? 5).map (fun i => (i.zero, i.size)) = some (some (.int .u8 0), 1) := by kernel_rfl
theorem zb_uint8 : (Try.prog.info? 5).map (fun i => (i.zero, i.size, i.bytes)) = some (some (.int .u8 0), 1, 1) := by kernel_rfl
theorem sz_uintptr : (Try.prog.info? 12).map (·.size) = some 1 := by kernel_rfl
theorem zi_uintptr : (Try.prog.info? 12).map (fun i => (i.zero, i.size)) = some (some (.int .u64 0), 1) := by kernel_rfl
theorem zb_uintptr : (Try.prog.info? 12).map (fun i => (i.zero, i.size, i.bytes)) = some (some (.int .u64 0), 1, 8) := by kernel_rfl
theorem sz_unsafe_Pointer : (Try.prog.info? 111).map (·.size) = some 1 := by kernel_rfl
theorem zi_unsafe_Pointer : (Try.prog.info? 111).map (fun i => (i.zero, i.size)) = some (some (.pointer none), 1) := by kernel_rfl
theorem zb_unsafe_Pointer : (Try.prog.info? 111).map (fun i => (i.zero, i.size, i.bytes)) = some (some (.pointer none), 1, 8) := by kernel_rfl
end Go.Proofs.Ytdldlimadmlpnaa
