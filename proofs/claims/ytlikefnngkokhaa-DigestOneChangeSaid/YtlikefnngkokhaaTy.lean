/- Facts on the types and the functions of the program. -/
import Derived.Test.YtlikefnngkokhaaProg
import Derived.Test.YtlikefnngkokhaaApp
import Derived.KernelRfl
set_option linter.unusedVariables false
namespace Go.Proofs.Ytlikefnngkokhaa
open Go.RowKit
theorem sz3 : Sz Try.prog 3 1 := fun w => by kernel_rfl
theorem sc3 : Sc Try.prog 3 := fun w => by kernel_rfl
theorem zv3 : Zv Try.prog 3 (.int .i64 0) := fun w => by kernel_rfl
theorem nf3 : (Try.prog.info? 3).map (fun i => (i.zero, i.size, i.bytes)) = some (some (.int .i64 0), 1, 8) := by kernel_rfl
theorem sz4 : Sz Try.prog 4 1 := fun w => by kernel_rfl
theorem sc4 : Sc Try.prog 4 := fun w => by kernel_rfl
theorem zv4 : Zv Try.prog 4 (.bool false) := fun w => by kernel_rfl
theorem nf4 : (Try.prog.info? 4).map (fun i => (i.zero, i.size, i.bytes)) = some (some (.bool false), 1, 1) := by kernel_rfl
theorem sz5 : Sz Try.prog 5 1 := fun w => by kernel_rfl
theorem sc5 : Sc Try.prog 5 := fun w => by kernel_rfl
theorem zv5 : Zv Try.prog 5 (.int .u8 0) := fun w => by kernel_rfl
theorem nf5 : (Try.prog.info? 5).map (fun i => (i.zero, i.size, i.bytes)) = some (some (.int .u8 0), 1, 1) := by kernel_rfl
theorem sz22 : Sz Try.prog 22 1 := fun w => by kernel_rfl
theorem sc22 : Sc Try.prog 22 := fun w => by kernel_rfl
theorem zv22 : Zv Try.prog 22 (.slice none 0 0) := fun w => by kernel_rfl
theorem nf22 : (Try.prog.info? 22).map (fun i => (i.zero, i.size, i.bytes)) = some (some (.slice none 0 0), 1, 24) := by kernel_rfl
theorem sz23 : Sz Try.prog 23 1 := fun w => by kernel_rfl
theorem sc23 : Sc Try.prog 23 := fun w => by kernel_rfl
theorem zv23 : Zv Try.prog 23 (.int .u16 0) := fun w => by kernel_rfl
theorem nf23 : (Try.prog.info? 23).map (fun i => (i.zero, i.size, i.bytes)) = some (some (.int .u16 0), 1, 2) := by kernel_rfl
theorem sz24 : Sz Try.prog 24 2 := fun w => by kernel_rfl
theorem ag24 : Ag Try.prog 24 2 := fun w => ⟨by kernel_rfl, by kernel_rfl⟩
theorem zv24 : Zv Try.prog 24 (.agg #[.int .u16 0, .int .u16 0]) := fun w => by kernel_rfl
theorem nf24 : (Try.prog.info? 24).map (fun i => (i.zero, i.size, i.bytes)) = some (some (.agg #[.int .u16 0, .int .u16 0]), 2, 4) := by kernel_rfl
theorem sz27 : Sz Try.prog 27 1 := fun w => by kernel_rfl
theorem sc27 : Sc Try.prog 27 := fun w => by kernel_rfl
theorem zv27 : Zv Try.prog 27 (.int .i64 0) := fun w => by kernel_rfl
theorem nf27 : (Try.prog.info? 27).map (fun i => (i.zero, i.size, i.bytes)) = some (some (.int .i64 0), 1, 8) := by kernel_rfl
theorem sz29 : Sz Try.prog 29 2 := fun w => by kernel_rfl
theorem ag29 : Ag Try.prog 29 2 := fun w => ⟨by kernel_rfl, by kernel_rfl⟩
theorem fld29_0 : Fld Try.prog 29 0 0 := fun a w => by kernel_rfl
theorem fld29_1 : Fld Try.prog 29 1 1 := fun a w => by kernel_rfl
theorem zv29 : Zv Try.prog 29 (.agg #[.slice none 0 0, .int .i64 0]) := fun w => by kernel_rfl
theorem nf29 : (Try.prog.info? 29).map (fun i => (i.zero, i.size, i.bytes)) = some (some (.agg #[.slice none 0 0, .int .i64 0]), 2, 32) := by kernel_rfl
theorem sz31 : Sz Try.prog 31 1 := fun w => by kernel_rfl
theorem sc31 : Sc Try.prog 31 := fun w => by kernel_rfl
theorem zv31 : Zv Try.prog 31 (.int .u64 0) := fun w => by kernel_rfl
theorem nf31 : (Try.prog.info? 31).map (fun i => (i.zero, i.size, i.bytes)) = some (some (.int .u64 0), 1, 8) := by kernel_rfl
theorem sz33 : Sz Try.prog 33 1 := fun w => by kernel_rfl
theorem sc33 : Sc Try.prog 33 := fun w => by kernel_rfl
theorem zv33 : Zv Try.prog 33 (.int .u64 0) := fun w => by kernel_rfl
theorem nf33 : (Try.prog.info? 33).map (fun i => (i.zero, i.size, i.bytes)) = some (some (.int .u64 0), 1, 8) := by kernel_rfl
theorem sz36 : Sz Try.prog 36 2 := fun w => by kernel_rfl
theorem ag36 : Ag Try.prog 36 2 := fun w => ⟨by kernel_rfl, by kernel_rfl⟩
theorem fld36_0 : Fld Try.prog 36 0 0 := fun a w => by kernel_rfl
theorem fld36_1 : Fld Try.prog 36 1 1 := fun a w => by kernel_rfl
theorem zv36 : Zv Try.prog 36 (.agg #[.int .i64 0, .slice none 0 0]) := fun w => by kernel_rfl
theorem nf36 : (Try.prog.info? 36).map (fun i => (i.zero, i.size, i.bytes)) = some (some (.agg #[.int .i64 0, .slice none 0 0]), 2, 32) := by kernel_rfl
theorem sz38 : Sz Try.prog 38 2 := fun w => by kernel_rfl
theorem ag38 : Ag Try.prog 38 2 := fun w => ⟨by kernel_rfl, by kernel_rfl⟩
theorem fld38_0 : Fld Try.prog 38 0 0 := fun a w => by kernel_rfl
theorem fld38_1 : Fld Try.prog 38 1 1 := fun a w => by kernel_rfl
theorem zv38 : Zv Try.prog 38 (.agg #[.int .i64 0, .int .u64 0]) := fun w => by kernel_rfl
theorem nf38 : (Try.prog.info? 38).map (fun i => (i.zero, i.size, i.bytes)) = some (some (.agg #[.int .i64 0, .int .u64 0]), 2, 16) := by kernel_rfl
theorem sz40 : Sz Try.prog 40 3 := fun w => by kernel_rfl
theorem ag40 : Ag Try.prog 40 3 := fun w => ⟨by kernel_rfl, by kernel_rfl⟩
theorem zv40 : Zv Try.prog 40 (.agg #[.int .u16 0, .int .u16 0, .int .u16 0]) := fun w => by kernel_rfl
theorem nf40 : (Try.prog.info? 40).map (fun i => (i.zero, i.size, i.bytes)) = some (some (.agg #[.int .u16 0, .int .u16 0, .int .u16 0]), 3, 6) := by kernel_rfl
theorem sz44 : Sz Try.prog 44 1 := fun w => by kernel_rfl
theorem sc44 : Sc Try.prog 44 := fun w => by kernel_rfl
theorem zv44 : Zv Try.prog 44 (.slice none 0 0) := fun w => by kernel_rfl
theorem nf44 : (Try.prog.info? 44).map (fun i => (i.zero, i.size, i.bytes)) = some (some (.slice none 0 0), 1, 24) := by kernel_rfl
theorem sz47 : Sz Try.prog 47 1 := fun w => by kernel_rfl
theorem sc47 : Sc Try.prog 47 := fun w => by kernel_rfl
theorem zv47 : Zv Try.prog 47 (.slice none 0 0) := fun w => by kernel_rfl
theorem nf47 : (Try.prog.info? 47).map (fun i => (i.zero, i.size, i.bytes)) = some (some (.slice none 0 0), 1, 24) := by kernel_rfl
theorem sz48 : Sz Try.prog 48 1 := fun w => by kernel_rfl
theorem sc48 : Sc Try.prog 48 := fun w => by kernel_rfl
theorem zv48 : Zv Try.prog 48 (.slice none 0 0) := fun w => by kernel_rfl
theorem nf48 : (Try.prog.info? 48).map (fun i => (i.zero, i.size, i.bytes)) = some (some (.slice none 0 0), 1, 24) := by kernel_rfl
theorem sz50 : Sz Try.prog 50 7 := fun w => by kernel_rfl
theorem ag50 : Ag Try.prog 50 7 := fun w => ⟨by kernel_rfl, by kernel_rfl⟩
theorem fld50_0 : Fld Try.prog 50 0 0 := fun a w => by kernel_rfl
theorem fld50_1 : Fld Try.prog 50 1 1 := fun a w => by kernel_rfl
theorem fld50_2 : Fld Try.prog 50 2 2 := fun a w => by kernel_rfl
theorem fld50_3 : Fld Try.prog 50 3 4 := fun a w => by kernel_rfl
theorem fld50_4 : Fld Try.prog 50 4 6 := fun a w => by kernel_rfl
theorem zv50 : Zv Try.prog 50 (.agg #[.int .u64 0, .int .u64 0, .int .i64 0, .slice none 0 0, .int .i64 0, .int .u64 0, .int .u16 0]) := fun w => by kernel_rfl
theorem nf50 : (Try.prog.info? 50).map (fun i => (i.zero, i.size, i.bytes)) = some (some (.agg #[.int .u64 0, .int .u64 0, .int .i64 0, .slice none 0 0, .int .i64 0, .int .u64 0, .int .u16 0]), 7, 72) := by kernel_rfl
theorem sz56 : Sz Try.prog 56 4 := fun w => by kernel_rfl
theorem ag56 : Ag Try.prog 56 4 := fun w => ⟨by kernel_rfl, by kernel_rfl⟩
theorem zv56 : Zv Try.prog 56 (.agg #[.int .u64 0, .int .u64 0, .int .u64 0, .int .u64 0]) := fun w => by kernel_rfl
theorem nf56 : (Try.prog.info? 56).map (fun i => (i.zero, i.size, i.bytes)) = some (some (.agg #[.int .u64 0, .int .u64 0, .int .u64 0, .int .u64 0]), 4, 32) := by kernel_rfl
theorem sz62 : Sz Try.prog 62 1 := fun w => by kernel_rfl
theorem sc62 : Sc Try.prog 62 := fun w => by kernel_rfl
theorem zv62 : Zv Try.prog 62 (.int .u64 0) := fun w => by kernel_rfl
theorem nf62 : (Try.prog.info? 62).map (fun i => (i.zero, i.size, i.bytes)) = some (some (.int .u64 0), 1, 8) := by kernel_rfl
theorem sz70 : Sz Try.prog 70 1 := fun w => by kernel_rfl
theorem sc70 : Sc Try.prog 70 := fun w => by kernel_rfl
theorem zv70 : Zv Try.prog 70 (.pointer none) := fun w => by kernel_rfl
theorem nf70 : (Try.prog.info? 70).map (fun i => (i.zero, i.size, i.bytes)) = some (some (.pointer none), 1, 8) := by kernel_rfl
theorem hfol : Try.prog.follows .mixedOrders = true := by kernel_rfl
theorem hb3 : HasBody Try.prog 3 := hasBody_of Try.func3 (by kernel_rfl) (by kernel_rfl)
theorem hb4 : HasBody Try.prog 4 := hasBody_of Try.func4 (by kernel_rfl) (by kernel_rfl)
theorem hb5 : HasBody Try.prog 5 := hasBody_of Try.func5 (by kernel_rfl) (by kernel_rfl)
theorem hb6 : HasBody Try.prog 6 := hasBody_of Try.func6 (by kernel_rfl) (by kernel_rfl)
theorem hb7 : HasBody Try.prog 7 := hasBody_of Try.func7 (by kernel_rfl) (by kernel_rfl)
theorem hb8 : HasBody Try.prog 8 := hasBody_of Try.func8 (by kernel_rfl) (by kernel_rfl)
theorem hb9 : HasBody Try.prog 9 := hasBody_of Try.func9 (by kernel_rfl) (by kernel_rfl)
theorem hb10 : HasBody Try.prog 10 := hasBody_of Try.func10 (by kernel_rfl) (by kernel_rfl)
theorem hb11 : HasBody Try.prog 11 := hasBody_of Try.func11 (by kernel_rfl) (by kernel_rfl)
theorem hb12 : HasBody Try.prog 12 := hasBody_of Try.func12 (by kernel_rfl) (by kernel_rfl)
theorem hb13 : HasBody Try.prog 13 := hasBody_of Try.func13 (by kernel_rfl) (by kernel_rfl)
theorem hb14 : HasBody Try.prog 14 := hasBody_of Try.func14 (by kernel_rfl) (by kernel_rfl)
theorem hb15 : HasBody Try.prog 15 := hasBody_of Try.func15 (by kernel_rfl) (by kernel_rfl)
theorem hb16 : HasBody Try.prog 16 := hasBody_of Try.func16 (by kernel_rfl) (by kernel_rfl)
theorem hb17 : HasBody Try.prog 17 := hasBody_of Try.func17 (by kernel_rfl) (by kernel_rfl)
theorem hb18 : HasBody Try.prog 18 := hasBody_of Try.func18 (by kernel_rfl) (by kernel_rfl)
theorem hb19 : HasBody Try.prog 19 := hasBody_of Try.func19 (by kernel_rfl) (by kernel_rfl)
theorem hb20 : HasBody Try.prog 20 := hasBody_of Try.func20 (by kernel_rfl) (by kernel_rfl)
theorem hb21 : HasBody Try.prog 21 := hasBody_of Try.func21 (by kernel_rfl) (by kernel_rfl)
theorem hb22 : HasBody Try.prog 22 := hasBody_of Try.func22 (by kernel_rfl) (by kernel_rfl)
theorem hb23 : HasBody Try.prog 23 := hasBody_of Try.func23 (by kernel_rfl) (by kernel_rfl)
theorem hb24 : HasBody Try.prog 24 := hasBody_of Try.func24 (by kernel_rfl) (by kernel_rfl)
theorem hb25 : HasBody Try.prog 25 := hasBody_of Try.func25 (by kernel_rfl) (by kernel_rfl)
theorem hb26 : HasBody Try.prog 26 := hasBody_of Try.func26 (by kernel_rfl) (by kernel_rfl)
theorem hb27 : HasBody Try.prog 27 := hasBody_of Try.func27 (by kernel_rfl) (by kernel_rfl)
theorem hb28 : HasBody Try.prog 28 := hasBody_of Try.func28 (by kernel_rfl) (by kernel_rfl)
theorem hb29 : HasBody Try.prog 29 := hasBody_of Try.func29 (by kernel_rfl) (by kernel_rfl)
theorem hb30 : HasBody Try.prog 30 := hasBody_of Try.func30 (by kernel_rfl) (by kernel_rfl)
theorem hb31 : HasBody Try.prog 31 := hasBody_of Try.func31 (by kernel_rfl) (by kernel_rfl)
theorem hb32 : HasBody Try.prog 32 := hasBody_of Try.func32 (by kernel_rfl) (by kernel_rfl)
theorem hb33 : HasBody Try.prog 33 := hasBody_of Try.func33 (by kernel_rfl) (by kernel_rfl)
theorem hb34 : HasBody Try.prog 34 := hasBody_of Try.func34 (by kernel_rfl) (by kernel_rfl)
theorem hb35 : HasBody Try.prog 35 := hasBody_of Try.func35 (by kernel_rfl) (by kernel_rfl)
theorem hb36 : HasBody Try.prog 36 := hasBody_of Try.func36 (by kernel_rfl) (by kernel_rfl)
theorem hb37 : HasBody Try.prog 37 := hasBody_of Try.func37 (by kernel_rfl) (by kernel_rfl)
end Go.Proofs.Ytlikefnngkokhaa
