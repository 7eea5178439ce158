/- Facts on types: how many cells, the zero value. -/
import Derived.Test.YtnjmlihmnkbgdaaInt
namespace Go.Proofs.Ytnjmlihmnkbgdaa
open Go.RowKit
theorem sz_Sapi_Term : (Try.prog.info? 22).map (·.size) = some 1 := by kernel_rfl
theorem sz_Sbool : (Try.prog.info? 33).map (·.size) = some 1 := by kernel_rfl
theorem sz_Sint : (Try.prog.info? 23).map (·.size) = some 1 := by kernel_rfl
theorem zi_Sint : (Try.prog.info? 23).map (fun i => (i.zero, i.size)) = some (some (.slice none 0 0), 1) := by kernel_rfl
theorem sz_api_Term : (Try.prog.info? 46).map (·.size) = some 3 := by kernel_rfl
theorem zi_api_Term : (Try.prog.info? 46).map (fun i => (i.zero, i.size)) = some (some (.agg #[.int .i64 0, .int .i64 0, .int .i64 0]), 3) := by kernel_rfl
theorem zb_api_Term : (Try.prog.info? 46).map (fun i => (i.zero, i.size, i.bytes)) = some (some (.agg #[.int .i64 0, .int .i64 0, .int .i64 0]), 3, 24) := by kernel_rfl
theorem ag_api_Term : Agg Try.prog 46 3 := ⟨_, Try.underlying46, rfl, sz_api_Term⟩
theorem sz_bool : (Try.prog.info? 4).map (·.size) = some 1 := by kernel_rfl
theorem zb_bool : (Try.prog.info? 4).map (fun i => (i.zero, i.size, i.bytes)) = some (some (.bool false), 1, 1) := by kernel_rfl
theorem sz_int : (Try.prog.info? 3).map (·.size) = some 1 := by kernel_rfl
theorem zi_int : (Try.prog.info? 3).map (fun i => (i.zero, i.size)) = some (some (.int .i64 0), 1) := by kernel_rfl
theorem zb_int : (Try.prog.info? 3).map (fun i => (i.zero, i.size, i.bytes)) = some (some (.int .i64 0), 1, 8) := by kernel_rfl
theorem sz_M_api_Term_int : (Try.prog.info? 49).map (·.size) = some 1 := by kernel_rfl
theorem sz_M_int_int : (Try.prog.info? 50).map (·.size) = some 1 := by kernel_rfl
end Go.Proofs.Ytnjmlihmnkbgdaa
