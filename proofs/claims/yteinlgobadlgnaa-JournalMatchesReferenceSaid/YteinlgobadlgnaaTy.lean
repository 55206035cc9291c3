/- Facts on the types and the functions of the program. -/
import Derived.Test.YteinlgobadlgnaaProg
import Derived.Test.YteinlgobadlgnaaApp
import Derived.KernelRfl
set_option linter.unusedVariables false
namespace Go.Proofs.Yteinlgobadlgnaa
open Go.RowKit
theorem sz3 : Sz Try.prog 3 1 := fun w => by kernel_rfl
theorem sc3 : Sc Try.prog 3 := fun w => by kernel_rfl
theorem zv3 : Zv Try.prog 3 (.int .i64 0) := fun w => by kernel_rfl
theorem nf3 : (Try.prog.info? 3).map (fun i => (i.zero, i.size, i.bytes)) = some (some (.int .i64 0), 1, 8) := by kernel_rfl
theorem sz4 : Sz Try.prog 4 1 := fun w => by kernel_rfl
theorem sc4 : Sc Try.prog 4 := fun w => by kernel_rfl
theorem zv4 : Zv Try.prog 4 (.bool false) := fun w => by kernel_rfl
theorem nf4 : (Try.prog.info? 4).map (fun i => (i.zero, i.size, i.bytes)) = some (some (.bool false), 1, 1) := by kernel_rfl
theorem sz5 : Sz Try.prog 5 1 := fun w => by kernel_rfl
theorem sc5 : Sc Try.prog 5 := fun w => by kernel_rfl
theorem zv5 : Zv Try.prog 5 (.int .u8 0) := fun w => by kernel_rfl
theorem nf5 : (Try.prog.info? 5).map (fun i => (i.zero, i.size, i.bytes)) = some (some (.int .u8 0), 1, 1) := by kernel_rfl
theorem sz22 : Sz Try.prog 22 1 := fun w => by kernel_rfl
theorem sc22 : Sc Try.prog 22 := fun w => by kernel_rfl
theorem zv22 : Zv Try.prog 22 (.slice none 0 0) := fun w => by kernel_rfl
theorem nf22 : (Try.prog.info? 22).map (fun i => (i.zero, i.size, i.bytes)) = some (some (.slice none 0 0), 1, 24) := by kernel_rfl
theorem sz23 : Sz Try.prog 23 1 := fun w => by kernel_rfl
theorem sc23 : Sc Try.prog 23 := fun w => by kernel_rfl
theorem zv23 : Zv Try.prog 23 (.slice none 0 0) := fun w => by kernel_rfl
theorem nf23 : (Try.prog.info? 23).map (fun i => (i.zero, i.size, i.bytes)) = some (some (.slice none 0 0), 1, 24) := by kernel_rfl
theorem sz24 : Sz Try.prog 24 1 := fun w => by kernel_rfl
theorem sc24 : Sc Try.prog 24 := fun w => by kernel_rfl
theorem zv24 : Zv Try.prog 24 (.int .u16 0) := fun w => by kernel_rfl
theorem nf24 : (Try.prog.info? 24).map (fun i => (i.zero, i.size, i.bytes)) = some (some (.int .u16 0), 1, 2) := by kernel_rfl
theorem sz25 : Sz Try.prog 25 4 := fun w => by kernel_rfl
theorem ag25 : Ag Try.prog 25 4 := fun w => ⟨by kernel_rfl, by kernel_rfl⟩
theorem zv25 : Zv Try.prog 25 (.agg #[.int .u16 0, .int .u16 0, .int .u16 0, .int .u16 0]) := fun w => by kernel_rfl
theorem nf25 : (Try.prog.info? 25).map (fun i => (i.zero, i.size, i.bytes)) = some (some (.agg #[.int .u16 0, .int .u16 0, .int .u16 0, .int .u16 0]), 4, 8) := by kernel_rfl
theorem sz29 : Sz Try.prog 29 1 := fun w => by kernel_rfl
theorem sc29 : Sc Try.prog 29 := fun w => by kernel_rfl
theorem zv29 : Zv Try.prog 29 (.slice none 0 0) := fun w => by kernel_rfl
theorem nf29 : (Try.prog.info? 29).map (fun i => (i.zero, i.size, i.bytes)) = some (some (.slice none 0 0), 1, 24) := by kernel_rfl
theorem sz30 : Sz Try.prog 30 1 := fun w => by kernel_rfl
theorem sc30 : Sc Try.prog 30 := fun w => by kernel_rfl
theorem zv30 : Zv Try.prog 30 (.slice none 0 0) := fun w => by kernel_rfl
theorem nf30 : (Try.prog.info? 30).map (fun i => (i.zero, i.size, i.bytes)) = some (some (.slice none 0 0), 1, 24) := by kernel_rfl
theorem sz31 : Sz Try.prog 31 1 := fun w => by kernel_rfl
theorem sc31 : Sc Try.prog 31 := fun w => by kernel_rfl
theorem zv31 : Zv Try.prog 31 (.int .i64 0) := fun w => by kernel_rfl
theorem nf31 : (Try.prog.info? 31).map (fun i => (i.zero, i.size, i.bytes)) = some (some (.int .i64 0), 1, 8) := by kernel_rfl
theorem sz32 : Sz Try.prog 32 1 := fun w => by kernel_rfl
theorem sc32 : Sc Try.prog 32 := fun w => by kernel_rfl
theorem zv32 : Zv Try.prog 32 (.int .u64 0) := fun w => by kernel_rfl
theorem nf32 : (Try.prog.info? 32).map (fun i => (i.zero, i.size, i.bytes)) = some (some (.int .u64 0), 1, 8) := by kernel_rfl
theorem sz34 : Sz Try.prog 34 5 := fun w => by kernel_rfl
theorem ag34 : Ag Try.prog 34 5 := fun w => ⟨by kernel_rfl, by kernel_rfl⟩
theorem fld34_0 : Fld Try.prog 34 0 0 := fun a w => by kernel_rfl
theorem fld34_1 : Fld Try.prog 34 1 1 := fun a w => by kernel_rfl
theorem fld34_2 : Fld Try.prog 34 2 2 := fun a w => by kernel_rfl
theorem fld34_3 : Fld Try.prog 34 3 3 := fun a w => by kernel_rfl
theorem fld34_4 : Fld Try.prog 34 4 4 := fun a w => by kernel_rfl
theorem zv34 : Zv Try.prog 34 (.agg #[.slice none 0 0, .slice none 0 0, .int .i64 0, .int .i64 0, .int .u64 0]) := fun w => by kernel_rfl
theorem nf34 : (Try.prog.info? 34).map (fun i => (i.zero, i.size, i.bytes)) = some (some (.agg #[.slice none 0 0, .slice none 0 0, .int .i64 0, .int .i64 0, .int .u64 0]), 5, 72) := by kernel_rfl
theorem sz37 : Sz Try.prog 37 2 := fun w => by kernel_rfl
theorem ag37 : Ag Try.prog 37 2 := fun w => ⟨by kernel_rfl, by kernel_rfl⟩
theorem fld37_0 : Fld Try.prog 37 0 0 := fun a w => by kernel_rfl
theorem fld37_1 : Fld Try.prog 37 1 1 := fun a w => by kernel_rfl
theorem zv37 : Zv Try.prog 37 (.agg #[.slice none 0 0, .int .i64 0]) := fun w => by kernel_rfl
theorem nf37 : (Try.prog.info? 37).map (fun i => (i.zero, i.size, i.bytes)) = some (some (.agg #[.slice none 0 0, .int .i64 0]), 2, 32) := by kernel_rfl
theorem sz55 : Sz Try.prog 55 4 := fun w => by kernel_rfl
theorem ag55 : Ag Try.prog 55 4 := fun w => ⟨by kernel_rfl, by kernel_rfl⟩
theorem fld55_0 : Fld Try.prog 55 0 0 := fun a w => by kernel_rfl
theorem fld55_1 : Fld Try.prog 55 1 1 := fun a w => by kernel_rfl
theorem fld55_2 : Fld Try.prog 55 2 2 := fun a w => by kernel_rfl
theorem fld55_3 : Fld Try.prog 55 3 3 := fun a w => by kernel_rfl
theorem zv55 : Zv Try.prog 55 (.agg #[.slice none 0 0, .int .u64 0, .int .i64 0, .bool false]) := fun w => by kernel_rfl
theorem nf55 : (Try.prog.info? 55).map (fun i => (i.zero, i.size, i.bytes)) = some (some (.agg #[.slice none 0 0, .int .u64 0, .int .i64 0, .bool false]), 4, 48) := by kernel_rfl
theorem sz62 : Sz Try.prog 62 2 := fun w => by kernel_rfl
theorem ag62 : Ag Try.prog 62 2 := fun w => ⟨by kernel_rfl, by kernel_rfl⟩
theorem fld62_0 : Fld Try.prog 62 0 0 := fun a w => by kernel_rfl
theorem fld62_1 : Fld Try.prog 62 1 1 := fun a w => by kernel_rfl
theorem zv62 : Zv Try.prog 62 (.agg #[.slice none 0 0, .int .u64 0]) := fun w => by kernel_rfl
theorem nf62 : (Try.prog.info? 62).map (fun i => (i.zero, i.size, i.bytes)) = some (some (.agg #[.slice none 0 0, .int .u64 0]), 2, 32) := by kernel_rfl
theorem sz64 : Sz Try.prog 64 1 := fun w => by kernel_rfl
theorem sc64 : Sc Try.prog 64 := fun w => by kernel_rfl
theorem zv64 : Zv Try.prog 64 (.int .u64 0) := fun w => by kernel_rfl
theorem nf64 : (Try.prog.info? 64).map (fun i => (i.zero, i.size, i.bytes)) = some (some (.int .u64 0), 1, 8) := by kernel_rfl
theorem sz65 : Sz Try.prog 65 1 := fun w => by kernel_rfl
theorem sc65 : Sc Try.prog 65 := fun w => by kernel_rfl
theorem zv65 : Zv Try.prog 65 (.int .u64 0) := fun w => by kernel_rfl
theorem nf65 : (Try.prog.info? 65).map (fun i => (i.zero, i.size, i.bytes)) = some (some (.int .u64 0), 1, 8) := by kernel_rfl
theorem sz68 : Sz Try.prog 68 1 := fun w => by kernel_rfl
theorem sc68 : Sc Try.prog 68 := fun w => by kernel_rfl
theorem zv68 : Zv Try.prog 68 (.slice none 0 0) := fun w => by kernel_rfl
theorem nf68 : (Try.prog.info? 68).map (fun i => (i.zero, i.size, i.bytes)) = some (some (.slice none 0 0), 1, 24) := by kernel_rfl
theorem sz70 : Sz Try.prog 70 1 := fun w => by kernel_rfl
theorem sc70 : Sc Try.prog 70 := fun w => by kernel_rfl
theorem zv70 : Zv Try.prog 70 (.pointer none) := fun w => by kernel_rfl
theorem nf70 : (Try.prog.info? 70).map (fun i => (i.zero, i.size, i.bytes)) = some (some (.pointer none), 1, 8) := by kernel_rfl
theorem sz74 : Sz Try.prog 74 1 := fun w => by kernel_rfl
theorem sc74 : Sc Try.prog 74 := fun w => by kernel_rfl
theorem zv74 : Zv Try.prog 74 (.pointer none) := fun w => by kernel_rfl
theorem nf74 : (Try.prog.info? 74).map (fun i => (i.zero, i.size, i.bytes)) = some (some (.pointer none), 1, 8) := by kernel_rfl
theorem hfol : Try.prog.follows .mixedOrders = true := by kernel_rfl
theorem hb3 : HasBody Try.prog 3 := hasBody_of Try.func3 (by kernel_rfl) (by kernel_rfl)
theorem hb4 : HasBody Try.prog 4 := hasBody_of Try.func4 (by kernel_rfl) (by kernel_rfl)
theorem hb5 : HasBody Try.prog 5 := hasBody_of Try.func5 (by kernel_rfl) (by kernel_rfl)
theorem hb6 : HasBody Try.prog 6 := hasBody_of Try.func6 (by kernel_rfl) (by kernel_rfl)
theorem hb7 : HasBody Try.prog 7 := hasBody_of Try.func7 (by kernel_rfl) (by kernel_rfl)
theorem hb8 : HasBody Try.prog 8 := hasBody_of Try.func8 (by kernel_rfl) (by kernel_rfl)
theorem hb9 : HasBody Try.prog 9 := hasBody_of Try.func9 (by kernel_rfl) (by kernel_rfl)
theorem hb10 : HasBody Try.prog 10 := hasBody_of Try.func10 (by kernel_rfl) (by kernel_rfl)
theorem hb11 : HasBody Try.prog 11 := hasBody_of Try.func11 (by kernel_rfl) (by kernel_rfl)
theorem hb12 : HasBody Try.prog 12 := hasBody_of Try.func12 (by kernel_rfl) (by kernel_rfl)
theorem hb13 : HasBody Try.prog 13 := hasBody_of Try.func13 (by kernel_rfl) (by kernel_rfl)
theorem hb14 : HasBody Try.prog 14 := hasBody_of Try.func14 (by kernel_rfl) (by kernel_rfl)
theorem hb15 : HasBody Try.prog 15 := hasBody_of Try.func15 (by kernel_rfl) (by kernel_rfl)
theorem hb16 : HasBody Try.prog 16 := hasBody_of Try.func16 (by kernel_rfl) (by kernel_rfl)
theorem hb17 : HasBody Try.prog 17 := hasBody_of Try.func17 (by kernel_rfl) (by kernel_rfl)
theorem hb18 : HasBody Try.prog 18 := hasBody_of Try.func18 (by kernel_rfl) (by kernel_rfl)
theorem hb19 : HasBody Try.prog 19 := hasBody_of Try.func19 (by kernel_rfl) (by kernel_rfl)
theorem hb20 : HasBody Try.prog 20 := hasBody_of Try.func20 (by kernel_rfl) (by kernel_rfl)
theorem hb21 : HasBody Try.prog 21 := hasBody_of Try.func21 (by kernel_rfl) (by kernel_rfl)
theorem hb22 : HasBody Try.prog 22 := hasBody_of Try.func22 (by kernel_rfl) (by kernel_rfl)
theorem hb23 : HasBody Try.prog 23 := hasBody_of Try.func23 (by kernel_rfl) (by kernel_rfl)
theorem hb24 : HasBody Try.prog 24 := hasBody_of Try.func24 (by kernel_rfl) (by kernel_rfl)
theorem hb25 : HasBody Try.prog 25 := hasBody_of Try.func25 (by kernel_rfl) (by kernel_rfl)
theorem hb26 : HasBody Try.prog 26 := hasBody_of Try.func26 (by kernel_rfl) (by kernel_rfl)
theorem hb27 : HasBody Try.prog 27 := hasBody_of Try.func27 (by kernel_rfl) (by kernel_rfl)
theorem hb28 : HasBody Try.prog 28 := hasBody_of Try.func28 (by kernel_rfl) (by kernel_rfl)
theorem hb29 : HasBody Try.prog 29 := hasBody_of Try.func29 (by kernel_rfl) (by kernel_rfl)
theorem hb30 : HasBody Try.prog 30 := hasBody_of Try.func30 (by kernel_rfl) (by kernel_rfl)
theorem hb31 : HasBody Try.prog 31 := hasBody_of Try.func31 (by kernel_rfl) (by kernel_rfl)
theorem hb32 : HasBody Try.prog 32 := hasBody_of Try.func32 (by kernel_rfl) (by kernel_rfl)
theorem hb33 : HasBody Try.prog 33 := hasBody_of Try.func33 (by kernel_rfl) (by kernel_rfl)
theorem hb34 : HasBody Try.prog 34 := hasBody_of Try.func34 (by kernel_rfl) (by kernel_rfl)
theorem hb35 : HasBody Try.prog 35 := hasBody_of Try.func35 (by kernel_rfl) (by kernel_rfl)
theorem hb36 : HasBody Try.prog 36 := hasBody_of Try.func36 (by kernel_rfl) (by kernel_rfl)
theorem hb37 : HasBody Try.prog 37 := hasBody_of Try.func37 (by kernel_rfl) (by kernel_rfl)
theorem hb38 : HasBody Try.prog 38 := hasBody_of Try.func38 (by kernel_rfl) (by kernel_rfl)
theorem hb39 : HasBody Try.prog 39 := hasBody_of Try.func39 (by kernel_rfl) (by kernel_rfl)
theorem hb40 : HasBody Try.prog 40 := hasBody_of Try.func40 (by kernel_rfl) (by kernel_rfl)
theorem hb41 : HasBody Try.prog 41 := hasBody_of Try.func41 (by kernel_rfl) (by kernel_rfl)
end Go.Proofs.Yteinlgobadlgnaa
