/- Facts on types: how many cells, the zero value. -/
import Derived.Test.YtlgcfnbhnpnkiaaInt
namespace Go.Proofs.Ytlgcfnbhnpnkiaa
open Go.RowKit
theorem sz_PA64_uint32 : (Try.prog.info? 148).map (·.size) = some 1 := by kernel_rfl
theorem zi_PA64_uint32 : (Try.prog.info? 148).map (fun i => (i.zero, i.size)) = some (some (.pointer none), 1) := by kernel_rfl
theorem zb_PA64_uint32 : (Try.prog.info? 148).map (fun i => (i.zero, i.size, i.bytes)) = some (some (.pointer none), 1, 8) := by kernel_rfl
theorem sz_Pabi_Type : (Try.prog.info? 17).map (·.size) = some 1 := by kernel_rfl
theorem zi_Pabi_Type : (Try.prog.info? 17).map (fun i => (i.zero, i.size)) = some (some (.pointer none), 1) := by kernel_rfl
theorem zb_Pabi_Type : (Try.prog.info? 17).map (fun i => (i.zero, i.size, i.bytes)) = some (some (.pointer none), 1, 8) := by kernel_rfl
theorem sz_Pchatelaineref12_Writer : (Try.prog.info? 92).map (·.size) = some 1 := by kernel_rfl
theorem zi_Pchatelaineref12_Writer : (Try.prog.info? 92).map (fun i => (i.zero, i.size)) = some (some (.pointer none), 1) := by kernel_rfl
theorem zb_Pchatelaineref12_Writer : (Try.prog.info? 92).map (fun i => (i.zero, i.size, i.bytes)) = some (some (.pointer none), 1, 8) := by kernel_rfl
theorem sz_Pfield_Reader : (Try.prog.info? 85).map (·.size) = some 1 := by kernel_rfl
theorem zi_Pfield_Reader : (Try.prog.info? 85).map (fun i => (i.zero, i.size)) = some (some (.pointer none), 1) := by kernel_rfl
theorem zb_Pfield_Reader : (Try.prog.info? 85).map (fun i => (i.zero, i.size, i.bytes)) = some (some (.pointer none), 1, 8) := by kernel_rfl
theorem sz_Pfield_Writer : (Try.prog.info? 82).map (·.size) = some 1 := by kernel_rfl
theorem zi_Pfield_Writer : (Try.prog.info? 82).map (fun i => (i.zero, i.size)) = some (some (.pointer none), 1) := by kernel_rfl
theorem zb_Pfield_Writer : (Try.prog.info? 82).map (fun i => (i.zero, i.size, i.bytes)) = some (some (.pointer none), 1, 8) := by kernel_rfl
theorem sz_Pfield_state : (Try.prog.info? 154).map (·.size) = some 1 := by kernel_rfl
theorem zi_Pfield_state : (Try.prog.info? 154).map (fun i => (i.zero, i.size)) = some (some (.pointer none), 1) := by kernel_rfl
theorem zb_Pfield_state : (Try.prog.info? 154).map (fun i => (i.zero, i.size, i.bytes)) = some (some (.pointer none), 1, 8) := by kernel_rfl
theorem sz_Pruntime_PanicNilError : (Try.prog.info? 16).map (·.size) = some 1 := by kernel_rfl
theorem zi_Pruntime_PanicNilError : (Try.prog.info? 16).map (fun i => (i.zero, i.size)) = some (some (.pointer none), 1) := by kernel_rfl
theorem zb_Pruntime_PanicNilError : (Try.prog.info? 16).map (fun i => (i.zero, i.size, i.bytes)) = some (some (.pointer none), 1, 8) := by kernel_rfl
theorem sz_Pruntime_TypeAssertionError : (Try.prog.info? 15).map (·.size) = some 1 := by kernel_rfl
theorem zi_Pruntime_TypeAssertionError : (Try.prog.info? 15).map (fun i => (i.zero, i.size)) = some (some (.pointer none), 1) := by kernel_rfl
theorem zb_Pruntime_TypeAssertionError : (Try.prog.info? 15).map (fun i => (i.zero, i.size, i.bytes)) = some (some (.pointer none), 1, 8) := by kernel_rfl
theorem sz_Pterm_Store : (Try.prog.info? 26).map (·.size) = some 1 := by kernel_rfl
theorem zi_Pterm_Store : (Try.prog.info? 26).map (fun i => (i.zero, i.size)) = some (some (.pointer none), 1) := by kernel_rfl
theorem zb_Pterm_Store : (Try.prog.info? 26).map (fun i => (i.zero, i.size, i.bytes)) = some (some (.pointer none), 1, 8) := by kernel_rfl
theorem sz_Puint8 : (Try.prog.info? 178).map (·.size) = some 1 := by kernel_rfl
theorem zi_Puint8 : (Try.prog.info? 178).map (fun i => (i.zero, i.size)) = some (some (.pointer none), 1) := by kernel_rfl
theorem zb_Puint8 : (Try.prog.info? 178).map (fun i => (i.zero, i.size, i.bytes)) = some (some (.pointer none), 1, 8) := by kernel_rfl
theorem sz_A0_Pruntime_PanicNilError : (Try.prog.info? 172).map (·.size) = some 0 := by kernel_rfl
theorem zi_A0_Pruntime_PanicNilError : (Try.prog.info? 172).map (fun i => (i.zero, i.size)) = some (some (.agg #[]), 0) := by kernel_rfl
theorem zb_A0_Pruntime_PanicNilError : (Try.prog.info? 172).map (fun i => (i.zero, i.size, i.bytes)) = some (some (.agg #[]), 0, 0) := by kernel_rfl
theorem ag_A0_Pruntime_PanicNilError : Agg Try.prog 172 0 := ⟨_, Try.underlying172, rfl, sz_A0_Pruntime_PanicNilError⟩
theorem sz_A2_int : (Try.prog.info? 51).map (·.size) = some 2 := by kernel_rfl
theorem zi_A2_int : (Try.prog.info? 51).map (fun i => (i.zero, i.size)) = some (some (.agg #[.int .i64 0, .int .i64 0]), 2) := by kernel_rfl
theorem zb_A2_int : (Try.prog.info? 51).map (fun i => (i.zero, i.size, i.bytes)) = some (some (.agg #[.int .i64 0, .int .i64 0]), 2, 16) := by kernel_rfl
theorem ag_A2_int : Agg Try.prog 51 2 := ⟨_, Try.underlying51, rfl, sz_A2_int⟩
theorem sz_A32_uint8 : (Try.prog.info? 40).map (·.size) = some 32 := by kernel_rfl
theorem zi_A32_uint8 : (Try.prog.info? 40).map (fun i => (i.zero, i.size)) = some (some (.agg (List.replicate 32 (.int .u8 0)).toArray), 32) := by kernel_rfl
theorem zb_A32_uint8 : (Try.prog.info? 40).map (fun i => (i.zero, i.size, i.bytes)) = some (some (.agg (List.replicate 32 (.int .u8 0)).toArray), 32, 32) := by kernel_rfl
theorem ag_A32_uint8 : Agg Try.prog 40 32 := ⟨_, Try.underlying40, rfl, sz_A32_uint8⟩
theorem sz_A4_uint : (Try.prog.info? 163).map (·.size) = some 4 := by kernel_rfl
theorem zi_A4_uint : (Try.prog.info? 163).map (fun i => (i.zero, i.size)) = some (some (.agg #[.int .u64 0, .int .u64 0, .int .u64 0, .int .u64 0]), 4) := by kernel_rfl
theorem zb_A4_uint : (Try.prog.info? 163).map (fun i => (i.zero, i.size, i.bytes)) = some (some (.agg #[.int .u64 0, .int .u64 0, .int .u64 0, .int .u64 0]), 4, 32) := by kernel_rfl
theorem ag_A4_uint : Agg Try.prog 163 4 := ⟨_, Try.underlying163, rfl, sz_A4_uint⟩
theorem sz_A4_uint8 : (Try.prog.info? 23).map (·.size) = some 4 := by kernel_rfl
theorem zi_A4_uint8 : (Try.prog.info? 23).map (fun i => (i.zero, i.size)) = some (some (.agg #[.int .u8 0, .int .u8 0, .int .u8 0, .int .u8 0]), 4) := by kernel_rfl
theorem zb_A4_uint8 : (Try.prog.info? 23).map (fun i => (i.zero, i.size, i.bytes)) = some (some (.agg #[.int .u8 0, .int .u8 0, .int .u8 0, .int .u8 0]), 4, 4) := by kernel_rfl
theorem ag_A4_uint8 : Agg Try.prog 23 4 := ⟨_, Try.underlying23, rfl, sz_A4_uint8⟩
theorem sz_A5_int : (Try.prog.info? 111).map (·.size) = some 5 := by kernel_rfl
theorem zi_A5_int : (Try.prog.info? 111).map (fun i => (i.zero, i.size)) = some (some (.agg #[.int .i64 0, .int .i64 0, .int .i64 0, .int .i64 0, .int .i64 0]), 5) := by kernel_rfl
theorem zb_A5_int : (Try.prog.info? 111).map (fun i => (i.zero, i.size, i.bytes)) = some (some (.agg #[.int .i64 0, .int .i64 0, .int .i64 0, .int .i64 0, .int .i64 0]), 5, 40) := by kernel_rfl
theorem ag_A5_int : Agg Try.prog 111 5 := ⟨_, Try.underlying111, rfl, sz_A5_int⟩
theorem sz_A64_uint32 : (Try.prog.info? 143).map (·.size) = some 64 := by kernel_rfl
theorem zi_A64_uint32 : (Try.prog.info? 143).map (fun i => (i.zero, i.size)) = some (some (.agg (List.replicate 64 (.int .u32 0)).toArray), 64) := by kernel_rfl
theorem zb_A64_uint32 : (Try.prog.info? 143).map (fun i => (i.zero, i.size, i.bytes)) = some (some (.agg (List.replicate 64 (.int .u32 0)).toArray), 64, 256) := by kernel_rfl
theorem ag_A64_uint32 : Agg Try.prog 143 64 := ⟨_, Try.underlying143, rfl, sz_A64_uint32⟩
theorem sz_A8_uint32 : (Try.prog.info? 145).map (·.size) = some 8 := by kernel_rfl
theorem zi_A8_uint32 : (Try.prog.info? 145).map (fun i => (i.zero, i.size)) = some (some (.agg #[.int .u32 0, .int .u32 0, .int .u32 0, .int .u32 0, .int .u32 0, .int .u32 0, .int .u32 0, .int .u32 0]), 8) := by kernel_rfl
theorem zb_A8_uint32 : (Try.prog.info? 145).map (fun i => (i.zero, i.size, i.bytes)) = some (some (.agg #[.int .u32 0, .int .u32 0, .int .u32 0, .int .u32 0, .int .u32 0, .int .u32 0, .int .u32 0, .int .u32 0]), 8, 32) := by kernel_rfl
theorem ag_A8_uint32 : Agg Try.prog 145 8 := ⟨_, Try.underlying145, rfl, sz_A8_uint32⟩
theorem sz_SA32_uint8 : (Try.prog.info? 39).map (·.size) = some 1 := by kernel_rfl
theorem zi_SA32_uint8 : (Try.prog.info? 39).map (fun i => (i.zero, i.size)) = some (some (.slice none 0 0), 1) := by kernel_rfl
theorem zb_SA32_uint8 : (Try.prog.info? 39).map (fun i => (i.zero, i.size, i.bytes)) = some (some (.slice none 0 0), 1, 24) := by kernel_rfl
theorem sz_SSuint8 : (Try.prog.info? 64).map (·.size) = some 1 := by kernel_rfl
theorem zi_SSuint8 : (Try.prog.info? 64).map (fun i => (i.zero, i.size)) = some (some (.slice none 0 0), 1) := by kernel_rfl
theorem zb_SSuint8 : (Try.prog.info? 64).map (fun i => (i.zero, i.size, i.bytes)) = some (some (.slice none 0 0), 1, 24) := by kernel_rfl
theorem sz_Sapi_Extent : (Try.prog.info? 63).map (·.size) = some 1 := by kernel_rfl
theorem zi_Sapi_Extent : (Try.prog.info? 63).map (fun i => (i.zero, i.size)) = some (some (.slice none 0 0), 1) := by kernel_rfl
theorem zb_Sapi_Extent : (Try.prog.info? 63).map (fun i => (i.zero, i.size, i.bytes)) = some (some (.slice none 0 0), 1, 24) := by kernel_rfl
theorem sz_Sapi_Space : (Try.prog.info? 61).map (·.size) = some 1 := by kernel_rfl
theorem zi_Sapi_Space : (Try.prog.info? 61).map (fun i => (i.zero, i.size)) = some (some (.slice none 0 0), 1) := by kernel_rfl
theorem zb_Sapi_Space : (Try.prog.info? 61).map (fun i => (i.zero, i.size, i.bytes)) = some (some (.slice none 0 0), 1, 24) := by kernel_rfl
theorem sz_Sapi_Term : (Try.prog.info? 22).map (·.size) = some 1 := by kernel_rfl
theorem zi_Sapi_Term : (Try.prog.info? 22).map (fun i => (i.zero, i.size)) = some (some (.slice none 0 0), 1) := by kernel_rfl
theorem zb_Sapi_Term : (Try.prog.info? 22).map (fun i => (i.zero, i.size, i.bytes)) = some (some (.slice none 0 0), 1, 24) := by kernel_rfl
theorem sz_Schatelainelaw12_Item : (Try.prog.info? 81).map (·.size) = some 1 := by kernel_rfl
theorem zi_Schatelainelaw12_Item : (Try.prog.info? 81).map (fun i => (i.zero, i.size)) = some (some (.slice none 0 0), 1) := by kernel_rfl
theorem zb_Schatelainelaw12_Item : (Try.prog.info? 81).map (fun i => (i.zero, i.size, i.bytes)) = some (some (.slice none 0 0), 1, 24) := by kernel_rfl
theorem sz_Sint : (Try.prog.info? 165).map (·.size) = some 1 := by kernel_rfl
theorem zi_Sint : (Try.prog.info? 165).map (fun i => (i.zero, i.size)) = some (some (.slice none 0 0), 1) := by kernel_rfl
theorem zb_Sint : (Try.prog.info? 165).map (fun i => (i.zero, i.size, i.bytes)) = some (some (.slice none 0 0), 1, 24) := by kernel_rfl
theorem sz_Suint32 : (Try.prog.info? 140).map (·.size) = some 1 := by kernel_rfl
theorem zi_Suint32 : (Try.prog.info? 140).map (fun i => (i.zero, i.size)) = some (some (.slice none 0 0), 1) := by kernel_rfl
theorem zb_Suint32 : (Try.prog.info? 140).map (fun i => (i.zero, i.size, i.bytes)) = some (some (.slice none 0 0), 1, 24) := by kernel_rfl
theorem sz_Suint8 : (Try.prog.info? 52).map (·.size) = some 1 := by kernel_rfl
theorem zi_Suint8 : (Try.prog.info? 52).map (fun i => (i.zero, i.size)) = some (some (.slice none 0 0), 1) := by kernel_rfl
theorem zb_Suint8 : (Try.prog.info? 52).map (fun i => (i.zero, i.size, i.bytes)) = some (some (.slice none 0 0), 1, 24) := by kernel_rfl
theorem sz_abi_BoundsErrorCode : (Try.prog.info? 6).map (·.size) = some 1 := by kernel_rfl
theorem zi_abi_BoundsErrorCode : (Try.prog.info? 6).map (fun i => (i.zero, i.size)) = some (some (.int .u8 0), 1) := by kernel_rfl
theorem zb_abi_BoundsErrorCode : (Try.prog.info? 6).map (fun i => (i.zero, i.size, i.bytes)) = some (some (.int .u8 0), 1, 1) := by kernel_rfl
theorem sz_abi_Kind : (Try.prog.info? 176).map (·.size) = some 1 := by kernel_rfl
theorem zi_abi_Kind : (Try.prog.info? 176).map (fun i => (i.zero, i.size)) = some (some (.int .u8 0), 1) := by kernel_rfl
theorem zb_abi_Kind : (Try.prog.info? 176).map (fun i => (i.zero, i.size, i.bytes)) = some (some (.int .u8 0), 1, 1) := by kernel_rfl
theorem sz_abi_NameOff : (Try.prog.info? 179).map (·.size) = some 1 := by kernel_rfl
theorem zi_abi_NameOff : (Try.prog.info? 179).map (fun i => (i.zero, i.size)) = some (some (.int .i32 0), 1) := by kernel_rfl
theorem zb_abi_NameOff : (Try.prog.info? 179).map (fun i => (i.zero, i.size, i.bytes)) = some (some (.int .i32 0), 1, 4) := by kernel_rfl
theorem sz_abi_TFlag : (Try.prog.info? 175).map (·.size) = some 1 := by kernel_rfl
theorem zi_abi_TFlag : (Try.prog.info? 175).map (fun i => (i.zero, i.size)) = some (some (.int .u8 0), 1) := by kernel_rfl
theorem zb_abi_TFlag : (Try.prog.info? 175).map (fun i => (i.zero, i.size, i.bytes)) = some (some (.int .u8 0), 1, 1) := by kernel_rfl
theorem sz_abi_Type : (Try.prog.info? 182).map (·.size) = some 11 := by kernel_rfl
theorem zi_abi_Type : (Try.prog.info? 182).map (fun i => (i.zero, i.size)) = some (some (.agg #[.int .u64 0, .int .u64 0, .int .u32 0, .int .u8 0, .int .u8 0, .int .u8 0, .int .u8 0, .nilFunc, .pointer none, .int .i32 0, .int .i32 0]), 11) := by kernel_rfl
theorem zb_abi_Type : (Try.prog.info? 182).map (fun i => (i.zero, i.size, i.bytes)) = some (some (.agg #[.int .u64 0, .int .u64 0, .int .u32 0, .int .u8 0, .int .u8 0, .int .u8 0, .int .u8 0, .nilFunc, .pointer none, .int .i32 0, .int .i32 0]), 11, 48) := by kernel_rfl
theorem ag_abi_Type : Agg Try.prog 182 11 := ⟨_, Try.underlying182, rfl, sz_abi_Type⟩
theorem sz_abi_TypeOff : (Try.prog.info? 180).map (·.size) = some 1 := by kernel_rfl
theorem zi_abi_TypeOff : (Try.prog.info? 180).map (fun i => (i.zero, i.size)) = some (some (.int .i32 0), 1) := by kernel_rfl
theorem zb_abi_TypeOff : (Try.prog.info? 180).map (fun i => (i.zero, i.size, i.bytes)) = some (some (.int .i32 0), 1, 4) := by kernel_rfl
theorem sz_api_Errno : (Try.prog.info? 30).map (·.size) = some 1 := by kernel_rfl
theorem zi_api_Errno : (Try.prog.info? 30).map (fun i => (i.zero, i.size)) = some (some (.int .i64 0), 1) := by kernel_rfl
theorem zb_api_Errno : (Try.prog.info? 30).map (fun i => (i.zero, i.size, i.bytes)) = some (some (.int .i64 0), 1, 8) := by kernel_rfl
theorem sz_api_Extent : (Try.prog.info? 184).map (·.size) = some 2 := by kernel_rfl
theorem zi_api_Extent : (Try.prog.info? 184).map (fun i => (i.zero, i.size)) = some (some (.agg #[.int .i64 0, .int .i64 0]), 2) := by kernel_rfl
theorem zb_api_Extent : (Try.prog.info? 184).map (fun i => (i.zero, i.size, i.bytes)) = some (some (.agg #[.int .i64 0, .int .i64 0]), 2, 16) := by kernel_rfl
theorem ag_api_Extent : Agg Try.prog 184 2 := ⟨_, Try.underlying184, rfl, sz_api_Extent⟩
theorem sz_api_Proof : (Try.prog.info? 75).map (·.size) = some 38 := by kernel_rfl
theorem zi_api_Proof : (Try.prog.info? 75).map (fun i => (i.zero, i.size)) = some (some (.agg #[.int .u8 0, .int .u8 0, .int .u8 0, .int .u8 0, .int .u8 0, .int .u8 0, .int .u8 0, .int .u8 0, .int .u8 0, .int .u8 0, .int .u8 0, .int .u8 0, .int .u8 0, .int .u8 0, .int .u8 0, .int .u8 0, .int .u8 0, .int .u8 0, .int .u8 0, .int .u8 0, .int .u8 0, .int .u8 0, .int .u8 0, .int .u8 0, .int .u8 0, .int .u8 0, .int .u8 0, .int .u8 0, .int .u8 0, .int .u8 0, .int .u8 0, .int .u8 0, .slice none 0 0, .slice none 0 0, .int .i64 0, .int .i64 0, .int .i64 0, .int .i64 0]), 38) := by kernel_rfl
theorem zb_api_Proof : (Try.prog.info? 75).map (fun i => (i.zero, i.size, i.bytes)) = some (some (.agg #[.int .u8 0, .int .u8 0, .int .u8 0, .int .u8 0, .int .u8 0, .int .u8 0, .int .u8 0, .int .u8 0, .int .u8 0, .int .u8 0, .int .u8 0, .int .u8 0, .int .u8 0, .int .u8 0, .int .u8 0, .int .u8 0, .int .u8 0, .int .u8 0, .int .u8 0, .int .u8 0, .int .u8 0, .int .u8 0, .int .u8 0, .int .u8 0, .int .u8 0, .int .u8 0, .int .u8 0, .int .u8 0, .int .u8 0, .int .u8 0, .int .u8 0, .int .u8 0, .slice none 0 0, .slice none 0 0, .int .i64 0, .int .i64 0, .int .i64 0, .int .i64 0]), 38, 112) := by kernel_rfl
theorem ag_api_Proof : Agg Try.prog 75 38 := ⟨_, Try.underlying75, rfl, sz_api_Proof⟩
theorem sz_api_Space : (Try.prog.info? 66).map (·.size) = some 7 := by kernel_rfl
theorem zi_api_Space : (Try.prog.info? 66).map (fun i => (i.zero, i.size)) = some (some (.agg #[.int .i64 0, .int .i64 0, .int .i64 0, .slice none 0 0, .slice none 0 0, .slice none 0 0, .slice none 0 0]), 7) := by kernel_rfl
theorem zb_api_Space : (Try.prog.info? 66).map (fun i => (i.zero, i.size, i.bytes)) = some (some (.agg #[.int .i64 0, .int .i64 0, .int .i64 0, .slice none 0 0, .slice none 0 0, .slice none 0 0, .slice none 0 0]), 7, 120) := by kernel_rfl
theorem ag_api_Space : Agg Try.prog 66 7 := ⟨_, Try.underlying66, rfl, sz_api_Space⟩
theorem sz_api_Term : (Try.prog.info? 29).map (·.size) = some 3 := by kernel_rfl
theorem zi_api_Term : (Try.prog.info? 29).map (fun i => (i.zero, i.size)) = some (some (.agg #[.int .i64 0, .int .i64 0, .int .i64 0]), 3) := by kernel_rfl
theorem zb_api_Term : (Try.prog.info? 29).map (fun i => (i.zero, i.size, i.bytes)) = some (some (.agg #[.int .i64 0, .int .i64 0, .int .i64 0]), 3, 24) := by kernel_rfl
theorem ag_api_Term : Agg Try.prog 29 3 := ⟨_, Try.underlying29, rfl, sz_api_Term⟩
theorem sz_bool : (Try.prog.info? 4).map (·.size) = some 1 := by kernel_rfl
theorem zi_bool : (Try.prog.info? 4).map (fun i => (i.zero, i.size)) = some (some (.bool false), 1) := by kernel_rfl
theorem zb_bool : (Try.prog.info? 4).map (fun i => (i.zero, i.size, i.bytes)) = some (some (.bool false), 1, 1) := by kernel_rfl
theorem sz_chatelainelaw12_Item : (Try.prog.info? 97).map (·.size) = some 4 := by kernel_rfl
theorem zi_chatelainelaw12_Item : (Try.prog.info? 97).map (fun i => (i.zero, i.size)) = some (some (.agg #[.int .i64 0, .int .i64 0, .int .i64 0, .slice none 0 0]), 4) := by kernel_rfl
theorem zb_chatelainelaw12_Item : (Try.prog.info? 97).map (fun i => (i.zero, i.size, i.bytes)) = some (some (.agg #[.int .i64 0, .int .i64 0, .int .i64 0, .slice none 0 0]), 4, 48) := by kernel_rfl
theorem ag_chatelainelaw12_Item : Agg Try.prog 97 4 := ⟨_, Try.underlying97, rfl, sz_chatelainelaw12_Item⟩
theorem sz_chatelaineref12_Writer : (Try.prog.info? 135).map (·.size) = some 2 := by kernel_rfl
theorem zi_chatelaineref12_Writer : (Try.prog.info? 135).map (fun i => (i.zero, i.size)) = some (some (.agg #[.slice none 0 0, .int .i64 0]), 2) := by kernel_rfl
theorem zb_chatelaineref12_Writer : (Try.prog.info? 135).map (fun i => (i.zero, i.size, i.bytes)) = some (some (.agg #[.slice none 0 0, .int .i64 0]), 2, 32) := by kernel_rfl
theorem ag_chatelaineref12_Writer : Agg Try.prog 135 2 := ⟨_, Try.underlying135, rfl, sz_chatelaineref12_Writer⟩
theorem sz_field_Reader : (Try.prog.info? 132).map (·.size) = some 3 := by kernel_rfl
theorem zi_field_Reader : (Try.prog.info? 132).map (fun i => (i.zero, i.size)) = some (some (.agg #[.int .i64 0, .slice none 0 0, .bool false]), 3) := by kernel_rfl
theorem zb_field_Reader : (Try.prog.info? 132).map (fun i => (i.zero, i.size, i.bytes)) = some (some (.agg #[.int .i64 0, .slice none 0 0, .bool false]), 3, 40) := by kernel_rfl
theorem ag_field_Reader : Agg Try.prog 132 3 := ⟨_, Try.underlying132, rfl, sz_field_Reader⟩
theorem sz_field_Writer : (Try.prog.info? 126).map (·.size) = some 2 := by kernel_rfl
theorem zi_field_Writer : (Try.prog.info? 126).map (fun i => (i.zero, i.size)) = some (some (.agg #[.int .i64 0, .slice none 0 0]), 2) := by kernel_rfl
theorem zb_field_Writer : (Try.prog.info? 126).map (fun i => (i.zero, i.size, i.bytes)) = some (some (.agg #[.int .i64 0, .slice none 0 0]), 2, 32) := by kernel_rfl
theorem ag_field_Writer : Agg Try.prog 126 2 := ⟨_, Try.underlying126, rfl, sz_field_Writer⟩
theorem sz_field_state : (Try.prog.info? 124).map (·.size) = some 1 := by kernel_rfl
theorem zi_field_state : (Try.prog.info? 124).map (fun i => (i.zero, i.size)) = some (some (.agg #[.int .i64 0]), 1) := by kernel_rfl
theorem zb_field_state : (Try.prog.info? 124).map (fun i => (i.zero, i.size, i.bytes)) = some (some (.agg #[.int .i64 0]), 1, 8) := by kernel_rfl
theorem ag_field_state : Agg Try.prog 124 1 := ⟨_, Try.underlying124, rfl, sz_field_state⟩
theorem sz_int : (Try.prog.info? 3).map (·.size) = some 1 := by kernel_rfl
theorem zi_int : (Try.prog.info? 3).map (fun i => (i.zero, i.size)) = some (some (.int .i64 0), 1) := by kernel_rfl
theorem zb_int : (Try.prog.info? 3).map (fun i => (i.zero, i.size, i.bytes)) = some (some (.int .i64 0), 1, 8) := by kernel_rfl
theorem sz_int32 : (Try.prog.info? 21).map (·.size) = some 1 := by kernel_rfl
theorem zi_int32 : (Try.prog.info? 21).map (fun i => (i.zero, i.size)) = some (some (.int .i32 0), 1) := by kernel_rfl
theorem zb_int32 : (Try.prog.info? 21).map (fun i => (i.zero, i.size, i.bytes)) = some (some (.int .i32 0), 1, 4) := by kernel_rfl
theorem sz_int64 : (Try.prog.info? 2).map (·.size) = some 1 := by kernel_rfl
theorem zi_int64 : (Try.prog.info? 2).map (fun i => (i.zero, i.size)) = some (some (.int .i64 0), 1) := by kernel_rfl
theorem zb_int64 : (Try.prog.info? 2).map (fun i => (i.zero, i.size, i.bytes)) = some (some (.int .i64 0), 1, 8) := by kernel_rfl
theorem sz_M_api_Term_api_Term : (Try.prog.info? 138).map (·.size) = some 1 := by kernel_rfl
theorem zi_M_api_Term_api_Term : (Try.prog.info? 138).map (fun i => (i.zero, i.size)) = some (some (.map none), 1) := by kernel_rfl
theorem zb_M_api_Term_api_Term : (Try.prog.info? 138).map (fun i => (i.zero, i.size, i.bytes)) = some (some (.map none), 1, 8) := by kernel_rfl
theorem sz_M_api_Term_bool : (Try.prog.info? 137).map (·.size) = some 1 := by kernel_rfl
theorem zi_M_api_Term_bool : (Try.prog.info? 137).map (fun i => (i.zero, i.size)) = some (some (.map none), 1) := by kernel_rfl
theorem zb_M_api_Term_bool : (Try.prog.info? 137).map (fun i => (i.zero, i.size, i.bytes)) = some (some (.map none), 1, 8) := by kernel_rfl
theorem sz_M_api_Term_int : (Try.prog.info? 103).map (·.size) = some 1 := by kernel_rfl
theorem zi_M_api_Term_int : (Try.prog.info? 103).map (fun i => (i.zero, i.size)) = some (some (.map none), 1) := by kernel_rfl
theorem zb_M_api_Term_int : (Try.prog.info? 103).map (fun i => (i.zero, i.size, i.bytes)) = some (some (.map none), 1, 8) := by kernel_rfl
theorem sz_M_int_int : (Try.prog.info? 104).map (·.size) = some 1 := by kernel_rfl
theorem zi_M_int_int : (Try.prog.info? 104).map (fun i => (i.zero, i.size)) = some (some (.map none), 1) := by kernel_rfl
theorem zb_M_int_int : (Try.prog.info? 104).map (fun i => (i.zero, i.size, i.bytes)) = some (some (.map none), 1, 8) := by kernel_rfl
theorem sz_M_merkle_sum_bool : (Try.prog.info? 115).map (·.size) = some 1 := by kernel_rfl
theorem zi_M_merkle_sum_bool : (Try.prog.info? 115).map (fun i => (i.zero, i.size)) = some (some (.map none), 1) := by kernel_rfl
theorem zb_M_merkle_sum_bool : (Try.prog.info? 115).map (fun i => (i.zero, i.size, i.bytes)) = some (some (.map none), 1, 8) := by kernel_rfl
theorem sz_maps_unhashableTypeError : (Try.prog.info? 19).map (·.size) = some 1 := by kernel_rfl
theorem zi_maps_unhashableTypeError : (Try.prog.info? 19).map (fun i => (i.zero, i.size)) = some (some (.agg #[.pointer none]), 1) := by kernel_rfl
theorem zb_maps_unhashableTypeError : (Try.prog.info? 19).map (fun i => (i.zero, i.size, i.bytes)) = some (some (.agg #[.pointer none]), 1, 8) := by kernel_rfl
theorem ag_maps_unhashableTypeError : Agg Try.prog 19 1 := ⟨_, Try.underlying19, rfl, sz_maps_unhashableTypeError⟩
theorem sz_merkle_sum : (Try.prog.info? 116).map (·.size) = some 32 := by kernel_rfl
theorem zi_merkle_sum : (Try.prog.info? 116).map (fun i => (i.zero, i.size)) = some (some (.agg (List.replicate 32 (.int .u8 0)).toArray), 32) := by kernel_rfl
theorem zb_merkle_sum : (Try.prog.info? 116).map (fun i => (i.zero, i.size, i.bytes)) = some (some (.agg (List.replicate 32 (.int .u8 0)).toArray), 32, 32) := by kernel_rfl
theorem ag_merkle_sum : Agg Try.prog 116 32 := ⟨_, Try.underlying116, rfl, sz_merkle_sum⟩
theorem sz_runtime_PanicNilError : (Try.prog.info? 174).map (·.size) = some 0 := by kernel_rfl
theorem zi_runtime_PanicNilError : (Try.prog.info? 174).map (fun i => (i.zero, i.size)) = some (some (.agg #[]), 0) := by kernel_rfl
theorem zb_runtime_PanicNilError : (Try.prog.info? 174).map (fun i => (i.zero, i.size, i.bytes)) = some (some (.agg #[]), 0, 0) := by kernel_rfl
theorem ag_runtime_PanicNilError : Agg Try.prog 174 0 := ⟨_, Try.underlying174, rfl, sz_runtime_PanicNilError⟩
theorem sz_runtime_TypeAssertionError : (Try.prog.info? 171).map (·.size) = some 4 := by kernel_rfl
theorem zi_runtime_TypeAssertionError : (Try.prog.info? 171).map (fun i => (i.zero, i.size)) = some (some (.agg #[.pointer none, .pointer none, .pointer none, .string ByteArray.empty]), 4) := by kernel_rfl
theorem zb_runtime_TypeAssertionError : (Try.prog.info? 171).map (fun i => (i.zero, i.size, i.bytes)) = some (some (.agg #[.pointer none, .pointer none, .pointer none, .string ByteArray.empty]), 4, 40) := by kernel_rfl
theorem ag_runtime_TypeAssertionError : Agg Try.prog 171 4 := ⟨_, Try.underlying171, rfl, sz_runtime_TypeAssertionError⟩
theorem sz_runtime_boundsError : (Try.prog.info? 8).map (·.size) = some 4 := by kernel_rfl
theorem zi_runtime_boundsError : (Try.prog.info? 8).map (fun i => (i.zero, i.size)) = some (some (.agg #[.int .i64 0, .int .i64 0, .bool false, .int .u8 0]), 4) := by kernel_rfl
theorem zb_runtime_boundsError : (Try.prog.info? 8).map (fun i => (i.zero, i.size, i.bytes)) = some (some (.agg #[.int .i64 0, .int .i64 0, .bool false, .int .u8 0]), 4, 24) := by kernel_rfl
theorem ag_runtime_boundsError : Agg Try.prog 8 4 := ⟨_, Try.underlying8, rfl, sz_runtime_boundsError⟩
theorem sz_runtime_errorAddressString : (Try.prog.info? 14).map (·.size) = some 2 := by kernel_rfl
theorem zi_runtime_errorAddressString : (Try.prog.info? 14).map (fun i => (i.zero, i.size)) = some (some (.agg #[.string ByteArray.empty, .int .u64 0]), 2) := by kernel_rfl
theorem zb_runtime_errorAddressString : (Try.prog.info? 14).map (fun i => (i.zero, i.size, i.bytes)) = some (some (.agg #[.string ByteArray.empty, .int .u64 0]), 2, 24) := by kernel_rfl
theorem ag_runtime_errorAddressString : Agg Try.prog 14 2 := ⟨_, Try.underlying14, rfl, sz_runtime_errorAddressString⟩
theorem sz_runtime_errorString : (Try.prog.info? 10).map (·.size) = some 1 := by kernel_rfl
theorem zi_runtime_errorString : (Try.prog.info? 10).map (fun i => (i.zero, i.size)) = some (some (.string ByteArray.empty), 1) := by kernel_rfl
theorem zb_runtime_errorString : (Try.prog.info? 10).map (fun i => (i.zero, i.size, i.bytes)) = some (some (.string ByteArray.empty), 1, 16) := by kernel_rfl
theorem sz_runtime_plainError : (Try.prog.info? 11).map (·.size) = some 1 := by kernel_rfl
theorem zi_runtime_plainError : (Try.prog.info? 11).map (fun i => (i.zero, i.size)) = some (some (.string ByteArray.empty), 1) := by kernel_rfl
theorem zb_runtime_plainError : (Try.prog.info? 11).map (fun i => (i.zero, i.size, i.bytes)) = some (some (.string ByteArray.empty), 1, 16) := by kernel_rfl
theorem sz_string : (Try.prog.info? 9).map (·.size) = some 1 := by kernel_rfl
theorem zi_string : (Try.prog.info? 9).map (fun i => (i.zero, i.size)) = some (some (.string ByteArray.empty), 1) := by kernel_rfl
theorem zb_string : (Try.prog.info? 9).map (fun i => (i.zero, i.size, i.bytes)) = some (some (.string ByteArray.empty), 1, 16) := by kernel_rfl
theorem sz_StBSuint8_Wrongint_ : (Try.prog.info? 134).map (·.size) = some 2 := by kernel_rfl
theorem zi_StBSuint8_Wrongint_ : (Try.prog.info? 134).map (fun i => (i.zero, i.size)) = some (some (.agg #[.slice none 0 0, .int .i64 0]), 2) := by kernel_rfl
theorem zb_StBSuint8_Wrongint_ : (Try.prog.info? 134).map (fun i => (i.zero, i.size, i.bytes)) = some (some (.agg #[.slice none 0 0, .int .i64 0]), 2, 32) := by kernel_rfl
theorem ag_StBSuint8_Wrongint_ : Agg Try.prog 134 2 := ⟨_, Try.underlying134, rfl, sz_StBSuint8_Wrongint_⟩
theorem sz_StIDint_Tenantint_Sectorsint_RootSuint8_ExtentsSapi_Extent_TreeSSuint8_SumsSA32_uint8_ : (Try.prog.info? 65).map (·.size) = some 7 := by kernel_rfl
theorem zi_StIDint_Tenantint_Sectorsint_RootSuint8_ExtentsSapi_Extent_TreeSSuint8_SumsSA32_uint8_ : (Try.prog.info? 65).map (fun i => (i.zero, i.size)) = some (some (.agg #[.int .i64 0, .int .i64 0, .int .i64 0, .slice none 0 0, .slice none 0 0, .slice none 0 0, .slice none 0 0]), 7) := by kernel_rfl
theorem zb_StIDint_Tenantint_Sectorsint_RootSuint8_ExtentsSapi_Extent_TreeSSuint8_SumsSA32_uint8_ : (Try.prog.info? 65).map (fun i => (i.zero, i.size, i.bytes)) = some (some (.agg #[.int .i64 0, .int .i64 0, .int .i64 0, .slice none 0 0, .slice none 0 0, .slice none 0 0, .slice none 0 0]), 7, 120) := by kernel_rfl
theorem ag_StIDint_Tenantint_Sectorsint_RootSuint8_ExtentsSapi_Extent_TreeSSuint8_SumsSA32_uint8_ : Agg Try.prog 65 7 := ⟨_, Try.underlying65, rfl, sz_StIDint_Tenantint_Sectorsint_RootSuint8_ExtentsSapi_Extent_TreeSSuint8_SumsSA32_uint8_⟩
theorem sz_StKindint_Aint_Bint_ : (Try.prog.info? 28).map (·.size) = some 3 := by kernel_rfl
theorem zi_StKindint_Aint_Bint_ : (Try.prog.info? 28).map (fun i => (i.zero, i.size)) = some (some (.agg #[.int .i64 0, .int .i64 0, .int .i64 0]), 3) := by kernel_rfl
theorem zb_StKindint_Aint_Bint_ : (Try.prog.info? 28).map (fun i => (i.zero, i.size, i.bytes)) = some (some (.agg #[.int .i64 0, .int .i64 0, .int .i64 0]), 3, 24) := by kernel_rfl
theorem ag_StKindint_Aint_Bint_ : Agg Try.prog 28 3 := ⟨_, Try.underlying28, rfl, sz_StKindint_Aint_Bint_⟩
theorem sz_StKindint_Nint_Sizeint_BSuint8_ : (Try.prog.info? 96).map (·.size) = some 4 := by kernel_rfl
theorem zi_StKindint_Nint_Sizeint_BSuint8_ : (Try.prog.info? 96).map (fun i => (i.zero, i.size)) = some (some (.agg #[.int .i64 0, .int .i64 0, .int .i64 0, .slice none 0 0]), 4) := by kernel_rfl
theorem zb_StKindint_Nint_Sizeint_BSuint8_ : (Try.prog.info? 96).map (fun i => (i.zero, i.size, i.bytes)) = some (some (.agg #[.int .i64 0, .int .i64 0, .int .i64 0, .slice none 0 0]), 4, 48) := by kernel_rfl
theorem ag_StKindint_Nint_Sizeint_BSuint8_ : Agg Try.prog 96 4 := ⟨_, Try.underlying96, rfl, sz_StKindint_Nint_Sizeint_BSuint8_⟩
theorem sz_StLeafA32_uint8_InSA32_uint8_UpSA32_uint8_Placeint_IDint_Tenantint_Sectorsint_ : (Try.prog.info? 74).map (·.size) = some 38 := by kernel_rfl
theorem zi_StLeafA32_uint8_InSA32_uint8_UpSA32_uint8_Placeint_IDint_Tenantint_Sectorsint_ : (Try.prog.info? 74).map (fun i => (i.zero, i.size)) = some (some (.agg #[.int .u8 0, .int .u8 0, .int .u8 0, .int .u8 0, .int .u8 0, .int .u8 0, .int .u8 0, .int .u8 0, .int .u8 0, .int .u8 0, .int .u8 0, .int .u8 0, .int .u8 0, .int .u8 0, .int .u8 0, .int .u8 0, .int .u8 0, .int .u8 0, .int .u8 0, .int .u8 0, .int .u8 0, .int .u8 0, .int .u8 0, .int .u8 0, .int .u8 0, .int .u8 0, .int .u8 0, .int .u8 0, .int .u8 0, .int .u8 0, .int .u8 0, .int .u8 0, .slice none 0 0, .slice none 0 0, .int .i64 0, .int .i64 0, .int .i64 0, .int .i64 0]), 38) := by kernel_rfl
theorem zb_StLeafA32_uint8_InSA32_uint8_UpSA32_uint8_Placeint_IDint_Tenantint_Sectorsint_ : (Try.prog.info? 74).map (fun i => (i.zero, i.size, i.bytes)) = some (some (.agg #[.int .u8 0, .int .u8 0, .int .u8 0, .int .u8 0, .int .u8 0, .int .u8 0, .int .u8 0, .int .u8 0, .int .u8 0, .int .u8 0, .int .u8 0, .int .u8 0, .int .u8 0, .int .u8 0, .int .u8 0, .int .u8 0, .int .u8 0, .int .u8 0, .int .u8 0, .int .u8 0, .int .u8 0, .int .u8 0, .int .u8 0, .int .u8 0, .int .u8 0, .int .u8 0, .int .u8 0, .int .u8 0, .int .u8 0, .int .u8 0, .int .u8 0, .int .u8 0, .slice none 0 0, .slice none 0 0, .int .i64 0, .int .i64 0, .int .i64 0, .int .i64 0]), 38, 112) := by kernel_rfl
theorem ag_StLeafA32_uint8_InSA32_uint8_UpSA32_uint8_Placeint_IDint_Tenantint_Sectorsint_ : Agg Try.prog 74 38 := ⟨_, Try.underlying74, rfl, sz_StLeafA32_uint8_InSA32_uint8_UpSA32_uint8_Placeint_IDint_Tenantint_Sectorsint_⟩
theorem sz_StSize_uintptr_PtrBytesuintptr_Hashuint32_TFlagabi_TFlag_Align_uint8_FieldAlign_uint8_Kind_abi_Kind_Equalfunc_unsafe_Pointer_unsafe_Pointer_bool_GCDataPuint8_Strabi_NameOff_PtrToThisabi_TypeOff_ : (Try.prog.info? 181).map (·.size) = some 11 := by kernel_rfl
theorem zi_StSize_uintptr_PtrBytesuintptr_Hashuint32_TFlagabi_TFlag_Align_uint8_FieldAlign_uint8_Kind_abi_Kind_Equalfunc_unsafe_Pointer_unsafe_Pointer_bool_GCDataPuint8_Strabi_NameOff_PtrToThisabi_TypeOff_ : (Try.prog.info? 181).map (fun i => (i.zero, i.size)) = some (some (.agg #[.int .u64 0, .int .u64 0, .int .u32 0, .int .u8 0, .int .u8 0, .int .u8 0, .int .u8 0, .nilFunc, .pointer none, .int .i32 0, .int .i32 0]), 11) := by kernel_rfl
theorem zb_StSize_uintptr_PtrBytesuintptr_Hashuint32_TFlagabi_TFlag_Align_uint8_FieldAlign_uint8_Kind_abi_Kind_Equalfunc_unsafe_Pointer_unsafe_Pointer_bool_GCDataPuint8_Strabi_NameOff_PtrToThisabi_TypeOff_ : (Try.prog.info? 181).map (fun i => (i.zero, i.size, i.bytes)) = some (some (.agg #[.int .u64 0, .int .u64 0, .int .u32 0, .int .u8 0, .int .u8 0, .int .u8 0, .int .u8 0, .nilFunc, .pointer none, .int .i32 0, .int .i32 0]), 11, 48) := by kernel_rfl
theorem ag_StSize_uintptr_PtrBytesuintptr_Hashuint32_TFlagabi_TFlag_Align_uint8_FieldAlign_uint8_Kind_abi_Kind_Equalfunc_unsafe_Pointer_unsafe_Pointer_bool_GCDataPuint8_Strabi_NameOff_PtrToThisabi_TypeOff_ : Agg Try.prog 181 11 := ⟨_, Try.underlying181, rfl, sz_StSize_uintptr_PtrBytesuintptr_Hashuint32_TFlagabi_TFlag_Align_uint8_FieldAlign_uint8_Kind_abi_Kind_Equalfunc_unsafe_Pointer_unsafe_Pointer_bool_GCDataPuint8_Strabi_NameOff_PtrToThisabi_TypeOff_⟩
theorem sz_StStartint_Lenint_ : (Try.prog.info? 183).map (·.size) = some 2 := by kernel_rfl
theorem zi_StStartint_Lenint_ : (Try.prog.info? 183).map (fun i => (i.zero, i.size)) = some (some (.agg #[.int .i64 0, .int .i64 0]), 2) := by kernel_rfl
theorem zb_StStartint_Lenint_ : (Try.prog.info? 183).map (fun i => (i.zero, i.size, i.bytes)) = some (some (.agg #[.int .i64 0, .int .i64 0]), 2, 16) := by kernel_rfl
theorem ag_StStartint_Lenint_ : Agg Try.prog 183 2 := ⟨_, Try.underlying183, rfl, sz_StStartint_Lenint_⟩
theorem sz_St_A0_Pruntime_PanicNilError_ : (Try.prog.info? 173).map (·.size) = some 0 := by kernel_rfl
theorem zi_St_A0_Pruntime_PanicNilError_ : (Try.prog.info? 173).map (fun i => (i.zero, i.size)) = some (some (.agg #[]), 0) := by kernel_rfl
theorem zb_St_A0_Pruntime_PanicNilError_ : (Try.prog.info? 173).map (fun i => (i.zero, i.size, i.bytes)) = some (some (.agg #[]), 0, 0) := by kernel_rfl
theorem ag_St_A0_Pruntime_PanicNilError_ : Agg Try.prog 173 0 := ⟨_, Try.underlying173, rfl, sz_St_A0_Pruntime_PanicNilError_⟩
theorem sz_St_interfacePabi_Type_concretePabi_Type_assertedPabi_Type_missingMethodstring_ : (Try.prog.info? 170).map (·.size) = some 4 := by kernel_rfl
theorem zi_St_interfacePabi_Type_concretePabi_Type_assertedPabi_Type_missingMethodstring_ : (Try.prog.info? 170).map (fun i => (i.zero, i.size)) = some (some (.agg #[.pointer none, .pointer none, .pointer none, .string ByteArray.empty]), 4) := by kernel_rfl
theorem zb_St_interfacePabi_Type_concretePabi_Type_assertedPabi_Type_missingMethodstring_ : (Try.prog.info? 170).map (fun i => (i.zero, i.size, i.bytes)) = some (some (.agg #[.pointer none, .pointer none, .pointer none, .string ByteArray.empty]), 4, 40) := by kernel_rfl
theorem ag_St_interfacePabi_Type_concretePabi_Type_assertedPabi_Type_missingMethodstring_ : Agg Try.prog 170 4 := ⟨_, Try.underlying170, rfl, sz_St_interfacePabi_Type_concretePabi_Type_assertedPabi_Type_missingMethodstring_⟩
theorem sz_Stfield_state_bSuint8_ : (Try.prog.info? 125).map (·.size) = some 2 := by kernel_rfl
theorem zi_Stfield_state_bSuint8_ : (Try.prog.info? 125).map (fun i => (i.zero, i.size)) = some (some (.agg #[.int .i64 0, .slice none 0 0]), 2) := by kernel_rfl
theorem zb_Stfield_state_bSuint8_ : (Try.prog.info? 125).map (fun i => (i.zero, i.size, i.bytes)) = some (some (.agg #[.int .i64 0, .slice none 0 0]), 2, 32) := by kernel_rfl
theorem ag_Stfield_state_bSuint8_ : Agg Try.prog 125 2 := ⟨_, Try.underlying125, rfl, sz_Stfield_state_bSuint8_⟩
theorem sz_Stfield_state_bSuint8_isbool_ : (Try.prog.info? 131).map (·.size) = some 3 := by kernel_rfl
theorem zi_Stfield_state_bSuint8_isbool_ : (Try.prog.info? 131).map (fun i => (i.zero, i.size)) = some (some (.agg #[.int .i64 0, .slice none 0 0, .bool false]), 3) := by kernel_rfl
theorem zb_Stfield_state_bSuint8_isbool_ : (Try.prog.info? 131).map (fun i => (i.zero, i.size, i.bytes)) = some (some (.agg #[.int .i64 0, .slice none 0 0, .bool false]), 3, 40) := by kernel_rfl
theorem ag_Stfield_state_bSuint8_isbool_ : Agg Try.prog 131 3 := ⟨_, Try.underlying131, rfl, sz_Stfield_state_bSuint8_isbool_⟩
theorem sz_StlSapi_Term_placesM_api_Term_int_sortsM_int_int_ : (Try.prog.info? 105).map (·.size) = some 3 := by kernel_rfl
theorem zi_StlSapi_Term_placesM_api_Term_int_sortsM_int_int_ : (Try.prog.info? 105).map (fun i => (i.zero, i.size)) = some (some (.agg #[.slice none 0 0, .map none, .map none]), 3) := by kernel_rfl
theorem zb_StlSapi_Term_placesM_api_Term_int_sortsM_int_int_ : (Try.prog.info? 105).map (fun i => (i.zero, i.size, i.bytes)) = some (some (.agg #[.slice none 0 0, .map none, .map none]), 3, 40) := by kernel_rfl
theorem ag_StlSapi_Term_placesM_api_Term_int_sortsM_int_int_ : Agg Try.prog 105 3 := ⟨_, Try.underlying105, rfl, sz_StlSapi_Term_placesM_api_Term_int_sortsM_int_int_⟩
theorem sz_Stmsgstring_addruintptr_ : (Try.prog.info? 13).map (·.size) = some 2 := by kernel_rfl
theorem zi_Stmsgstring_addruintptr_ : (Try.prog.info? 13).map (fun i => (i.zero, i.size)) = some (some (.agg #[.string ByteArray.empty, .int .u64 0]), 2) := by kernel_rfl
theorem zb_Stmsgstring_addruintptr_ : (Try.prog.info? 13).map (fun i => (i.zero, i.size, i.bytes)) = some (some (.agg #[.string ByteArray.empty, .int .u64 0]), 2, 24) := by kernel_rfl
theorem ag_Stmsgstring_addruintptr_ : Agg Try.prog 13 2 := ⟨_, Try.underlying13, rfl, sz_Stmsgstring_addruintptr_⟩
theorem sz_SttypPabi_Type_ : (Try.prog.info? 18).map (·.size) = some 1 := by kernel_rfl
theorem zi_SttypPabi_Type_ : (Try.prog.info? 18).map (fun i => (i.zero, i.size)) = some (some (.agg #[.pointer none]), 1) := by kernel_rfl
theorem zb_SttypPabi_Type_ : (Try.prog.info? 18).map (fun i => (i.zero, i.size, i.bytes)) = some (some (.agg #[.pointer none]), 1, 8) := by kernel_rfl
theorem ag_SttypPabi_Type_ : Agg Try.prog 18 1 := ⟨_, Try.underlying18, rfl, sz_SttypPabi_Type_⟩
theorem sz_Stwrongapi_Errno_ : (Try.prog.info? 123).map (·.size) = some 1 := by kernel_rfl
theorem zi_Stwrongapi_Errno_ : (Try.prog.info? 123).map (fun i => (i.zero, i.size)) = some (some (.agg #[.int .i64 0]), 1) := by kernel_rfl
theorem zb_Stwrongapi_Errno_ : (Try.prog.info? 123).map (fun i => (i.zero, i.size, i.bytes)) = some (some (.agg #[.int .i64 0]), 1, 8) := by kernel_rfl
theorem ag_Stwrongapi_Errno_ : Agg Try.prog 123 1 := ⟨_, Try.underlying123, rfl, sz_Stwrongapi_Errno_⟩
theorem sz_Stxint64_yint_signedbool_codeabi_BoundsErrorCode_ : (Try.prog.info? 7).map (·.size) = some 4 := by kernel_rfl
theorem zi_Stxint64_yint_signedbool_codeabi_BoundsErrorCode_ : (Try.prog.info? 7).map (fun i => (i.zero, i.size)) = some (some (.agg #[.int .i64 0, .int .i64 0, .bool false, .int .u8 0]), 4) := by kernel_rfl
theorem zb_Stxint64_yint_signedbool_codeabi_BoundsErrorCode_ : (Try.prog.info? 7).map (fun i => (i.zero, i.size, i.bytes)) = some (some (.agg #[.int .i64 0, .int .i64 0, .bool false, .int .u8 0]), 4, 24) := by kernel_rfl
theorem ag_Stxint64_yint_signedbool_codeabi_BoundsErrorCode_ : Agg Try.prog 7 4 := ⟨_, Try.underlying7, rfl, sz_Stxint64_yint_signedbool_codeabi_BoundsErrorCode_⟩
theorem sz_term_Store : (Try.prog.info? 106).map (·.size) = some 3 := by kernel_rfl
theorem zi_term_Store : (Try.prog.info? 106).map (fun i => (i.zero, i.size)) = some (some (.agg #[.slice none 0 0, .map none, .map none]), 3) := by kernel_rfl
theorem zb_term_Store : (Try.prog.info? 106).map (fun i => (i.zero, i.size, i.bytes)) = some (some (.agg #[.slice none 0 0, .map none, .map none]), 3, 40) := by kernel_rfl
theorem ag_term_Store : Agg Try.prog 106 3 := ⟨_, Try.underlying106, rfl, sz_term_Store⟩
theorem sz_uint : (Try.prog.info? 153).map (·.size) = some 1 := by kernel_rfl
theorem zi_uint : (Try.prog.info? 153).map (fun i => (i.zero, i.size)) = some (some (.int .u64 0), 1) := by kernel_rfl
theorem zb_uint : (Try.prog.info? 153).map (fun i => (i.zero, i.size, i.bytes)) = some (some (.int .u64 0), 1, 8) := by kernel_rfl
theorem sz_uint32 : (Try.prog.info? 139).map (·.size) = some 1 := by kernel_rfl
theorem zi_uint32 : (Try.prog.info? 139).map (fun i => (i.zero, i.size)) = some (some (.int .u32 0), 1) := by kernel_rfl
theorem zb_uint32 : (Try.prog.info? 139).map (fun i => (i.zero, i.size, i.bytes)) = some (some (.int .u32 0), 1, 4) := by kernel_rfl
theorem sz_uint64 : (Try.prog.info? 120).map (·.size) = some 1 := by kernel_rfl
theorem zi_uint64 : (Try.prog.info? 120).map (fun i => (i.zero, i.size)) = some (some (.int .u64 0), 1) := by kernel_rfl
theorem zb_uint64 : (Try.prog.info? 120).map (fun i => (i.zero, i.size, i.bytes)) = some (some (.int .u64 0), 1, 8) := by kernel_rfl
theorem sz_uint8 : (Try.prog.info? 5).map (·.size) = some 1 := by kernel_rfl
theorem zi_uint8 : (Try.prog.info? 5).map (fun i => (i.zero, i.size)) = some (some (.int .u8 0), 1) := by kernel_rfl
theorem zb_uint8 : (Try.prog.info? 5).map (fun i => (i.zero, i.size, i.bytes)) = some (some (.int .u8 0), 1, 1) := by kernel_rfl
theorem sz_uintptr : (Try.prog.info? 12).map (·.size) = some 1 := by kernel_rfl
theorem zi_uintptr : (Try.prog.info? 12).map (fun i => (i.zero, i.size)) = some (some (.int .u64 0), 1) := by kernel_rfl
theorem zb_uintptr : (Try.prog.info? 12).map (fun i => (i.zero, i.size, i.bytes)) = some (some (.int .u64 0), 1, 8) := by kernel_rfl
theorem sz_unsafe_Pointer : (Try.prog.info? 185).map (·.size) = some 1 := by kernel_rfl
theorem zi_unsafe_Pointer : (Try.prog.info? 185).map (fun i => (i.zero, i.size)) = some (some (.pointer none), 1) := by kernel_rfl
theorem zb_unsafe_Pointer : (Try.prog.info? 185).map (fun i => (i.zero, i.size, i.bytes)) = some (some (.pointer none), 1, 8) := by kernel_rfl
end Go.Proofs.Ytlgcfnbhnpnkiaa
