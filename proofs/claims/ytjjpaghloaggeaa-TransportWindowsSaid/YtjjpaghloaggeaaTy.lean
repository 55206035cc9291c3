/- Facts on the types and the functions of the program. -/
import Derived.Test.YtjjpaghloaggeaaProg
import Derived.Test.YtjjpaghloaggeaaApp
import Derived.KernelRfl
set_option linter.unusedVariables false
namespace Go.Proofs.Ytjjpaghloaggeaa
open Go.RowKit
theorem sz3 : Sz Try.prog 3 1 := fun w => by kernel_rfl
theorem sc3 : Sc Try.prog 3 := fun w => by kernel_rfl
theorem zv3 : Zv Try.prog 3 (.int .i64 0) := fun w => by kernel_rfl
theorem nf3 : (Try.prog.info? 3).map (fun i => (i.zero, i.size, i.bytes)) = some (some (.int .i64 0), 1, 8) := by kernel_rfl
theorem sz4 : Sz Try.prog 4 1 := fun w => by kernel_rfl
theorem sc4 : Sc Try.prog 4 := fun w => by kernel_rfl
theorem zv4 : Zv Try.prog 4 (.bool false) := fun w => by kernel_rfl
theorem nf4 : (Try.prog.info? 4).map (fun i => (i.zero, i.size, i.bytes)) = some (some (.bool false), 1, 1) := by kernel_rfl
theorem sz5 : Sz Try.prog 5 1 := fun w => by kernel_rfl
theorem sc5 : Sc Try.prog 5 := fun w => by kernel_rfl
theorem zv5 : Zv Try.prog 5 (.int .u8 0) := fun w => by kernel_rfl
theorem nf5 : (Try.prog.info? 5).map (fun i => (i.zero, i.size, i.bytes)) = some (some (.int .u8 0), 1, 1) := by kernel_rfl
theorem sz22 : Sz Try.prog 22 1 := fun w => by kernel_rfl
theorem sc22 : Sc Try.prog 22 := fun w => by kernel_rfl
theorem zv22 : Zv Try.prog 22 (.int .u64 0) := fun w => by kernel_rfl
theorem nf22 : (Try.prog.info? 22).map (fun i => (i.zero, i.size, i.bytes)) = some (some (.int .u64 0), 1, 8) := by kernel_rfl
theorem sz23 : Sz Try.prog 23 1 := fun w => by kernel_rfl
theorem sc23 : Sc Try.prog 23 := fun w => by kernel_rfl
theorem zv23 : Zv Try.prog 23 (.slice none 0 0) := fun w => by kernel_rfl
theorem nf23 : (Try.prog.info? 23).map (fun i => (i.zero, i.size, i.bytes)) = some (some (.slice none 0 0), 1, 24) := by kernel_rfl
theorem sz24 : Sz Try.prog 24 1 := fun w => by kernel_rfl
theorem sc24 : Sc Try.prog 24 := fun w => by kernel_rfl
theorem zv24 : Zv Try.prog 24 (.slice none 0 0) := fun w => by kernel_rfl
theorem nf24 : (Try.prog.info? 24).map (fun i => (i.zero, i.size, i.bytes)) = some (some (.slice none 0 0), 1, 24) := by kernel_rfl
theorem sz26 : Sz Try.prog 26 5 := fun w => by kernel_rfl
theorem ag26 : Ag Try.prog 26 5 := fun w => ⟨by kernel_rfl, by kernel_rfl⟩
theorem fld26_0 : Fld Try.prog 26 0 0 := fun a w => by kernel_rfl
theorem fld26_1 : Fld Try.prog 26 1 1 := fun a w => by kernel_rfl
theorem fld26_2 : Fld Try.prog 26 2 2 := fun a w => by kernel_rfl
theorem fld26_3 : Fld Try.prog 26 3 3 := fun a w => by kernel_rfl
theorem fld26_4 : Fld Try.prog 26 4 4 := fun a w => by kernel_rfl
theorem zv26 : Zv Try.prog 26 (.agg #[.int .u64 0, .slice none 0 0, .int .i64 0, .slice none 0 0, .int .i64 0]) := fun w => by kernel_rfl
theorem nf26 : (Try.prog.info? 26).map (fun i => (i.zero, i.size, i.bytes)) = some (some (.agg #[.int .u64 0, .slice none 0 0, .int .i64 0, .slice none 0 0, .int .i64 0]), 5, 72) := by kernel_rfl
theorem sz28 : Sz Try.prog 28 4 := fun w => by kernel_rfl
theorem ag28 : Ag Try.prog 28 4 := fun w => ⟨by kernel_rfl, by kernel_rfl⟩
theorem fld28_0 : Fld Try.prog 28 0 0 := fun a w => by kernel_rfl
theorem fld28_1 : Fld Try.prog 28 1 1 := fun a w => by kernel_rfl
theorem fld28_2 : Fld Try.prog 28 2 2 := fun a w => by kernel_rfl
theorem fld28_3 : Fld Try.prog 28 3 3 := fun a w => by kernel_rfl
theorem zv28 : Zv Try.prog 28 (.agg #[.int .i64 0, .int .i64 0, .slice none 0 0, .int .u64 0]) := fun w => by kernel_rfl
theorem nf28 : (Try.prog.info? 28).map (fun i => (i.zero, i.size, i.bytes)) = some (some (.agg #[.int .i64 0, .int .i64 0, .slice none 0 0, .int .u64 0]), 4, 48) := by kernel_rfl
theorem sz30 : Sz Try.prog 30 11 := fun w => by kernel_rfl
theorem ag30 : Ag Try.prog 30 11 := fun w => ⟨by kernel_rfl, by kernel_rfl⟩
theorem fld30_0 : Fld Try.prog 30 0 0 := fun a w => by kernel_rfl
theorem fld30_1 : Fld Try.prog 30 1 5 := fun a w => by kernel_rfl
theorem fld30_2 : Fld Try.prog 30 2 9 := fun a w => by kernel_rfl
theorem fld30_3 : Fld Try.prog 30 3 10 := fun a w => by kernel_rfl
theorem zv30 : Zv Try.prog 30 (.agg #[.int .u64 0, .slice none 0 0, .int .i64 0, .slice none 0 0, .int .i64 0, .int .i64 0, .int .i64 0, .slice none 0 0, .int .u64 0, .slice none 0 0, .int .i64 0]) := fun w => by kernel_rfl
theorem nf30 : (Try.prog.info? 30).map (fun i => (i.zero, i.size, i.bytes)) = some (some (.agg #[.int .u64 0, .slice none 0 0, .int .i64 0, .slice none 0 0, .int .i64 0, .int .i64 0, .int .i64 0, .slice none 0 0, .int .u64 0, .slice none 0 0, .int .i64 0]), 11, 152) := by kernel_rfl
theorem sz39 : Sz Try.prog 39 1 := fun w => by kernel_rfl
theorem sc39 : Sc Try.prog 39 := fun w => by kernel_rfl
theorem zv39 : Zv Try.prog 39 (.int .i64 0) := fun w => by kernel_rfl
theorem nf39 : (Try.prog.info? 39).map (fun i => (i.zero, i.size, i.bytes)) = some (some (.int .i64 0), 1, 8) := by kernel_rfl
theorem sz41 : Sz Try.prog 41 7 := fun w => by kernel_rfl
theorem ag41 : Ag Try.prog 41 7 := fun w => ⟨by kernel_rfl, by kernel_rfl⟩
theorem fld41_0 : Fld Try.prog 41 0 0 := fun a w => by kernel_rfl
theorem fld41_1 : Fld Try.prog 41 1 1 := fun a w => by kernel_rfl
theorem fld41_2 : Fld Try.prog 41 2 6 := fun a w => by kernel_rfl
theorem zv41 : Zv Try.prog 41 (.agg #[.slice none 0 0, .int .u64 0, .slice none 0 0, .int .i64 0, .slice none 0 0, .int .i64 0, .int .i64 0]) := fun w => by kernel_rfl
theorem nf41 : (Try.prog.info? 41).map (fun i => (i.zero, i.size, i.bytes)) = some (some (.agg #[.slice none 0 0, .int .u64 0, .slice none 0 0, .int .i64 0, .slice none 0 0, .int .i64 0, .int .i64 0]), 7, 104) := by kernel_rfl
theorem sz44 : Sz Try.prog 44 5 := fun w => by kernel_rfl
theorem ag44 : Ag Try.prog 44 5 := fun w => ⟨by kernel_rfl, by kernel_rfl⟩
theorem fld44_0 : Fld Try.prog 44 0 0 := fun a w => by kernel_rfl
theorem fld44_1 : Fld Try.prog 44 1 4 := fun a w => by kernel_rfl
theorem zv44 : Zv Try.prog 44 (.agg #[.int .i64 0, .int .i64 0, .slice none 0 0, .int .u64 0, .int .i64 0]) := fun w => by kernel_rfl
theorem nf44 : (Try.prog.info? 44).map (fun i => (i.zero, i.size, i.bytes)) = some (some (.agg #[.int .i64 0, .int .i64 0, .slice none 0 0, .int .u64 0, .int .i64 0]), 5, 56) := by kernel_rfl
theorem sz48 : Sz Try.prog 48 6 := fun w => by kernel_rfl
theorem ag48 : Ag Try.prog 48 6 := fun w => ⟨by kernel_rfl, by kernel_rfl⟩
theorem fld48_0 : Fld Try.prog 48 0 0 := fun a w => by kernel_rfl
theorem fld48_1 : Fld Try.prog 48 1 5 := fun a w => by kernel_rfl
theorem zv48 : Zv Try.prog 48 (.agg #[.int .u64 0, .slice none 0 0, .int .i64 0, .slice none 0 0, .int .i64 0, .int .i64 0]) := fun w => by kernel_rfl
theorem nf48 : (Try.prog.info? 48).map (fun i => (i.zero, i.size, i.bytes)) = some (some (.agg #[.int .u64 0, .slice none 0 0, .int .i64 0, .slice none 0 0, .int .i64 0, .int .i64 0]), 6, 80) := by kernel_rfl
theorem sz55 : Sz Try.prog 55 1 := fun w => by kernel_rfl
theorem sc55 : Sc Try.prog 55 := fun w => by kernel_rfl
theorem zv55 : Zv Try.prog 55 (.slice none 0 0) := fun w => by kernel_rfl
theorem nf55 : (Try.prog.info? 55).map (fun i => (i.zero, i.size, i.bytes)) = some (some (.slice none 0 0), 1, 24) := by kernel_rfl
theorem sz56 : Sz Try.prog 56 10 := fun w => by kernel_rfl
theorem ag56 : Ag Try.prog 56 10 := fun w => ⟨by kernel_rfl, by kernel_rfl⟩
theorem zv56 : Zv Try.prog 56 (.agg #[.int .u64 0, .slice none 0 0, .int .i64 0, .slice none 0 0, .int .i64 0, .int .u64 0, .slice none 0 0, .int .i64 0, .slice none 0 0, .int .i64 0]) := fun w => by kernel_rfl
theorem nf56 : (Try.prog.info? 56).map (fun i => (i.zero, i.size, i.bytes)) = some (some (.agg #[.int .u64 0, .slice none 0 0, .int .i64 0, .slice none 0 0, .int .i64 0, .int .u64 0, .slice none 0 0, .int .i64 0, .slice none 0 0, .int .i64 0]), 10, 144) := by kernel_rfl
theorem sz57 : Sz Try.prog 57 1 := fun w => by kernel_rfl
theorem sc57 : Sc Try.prog 57 := fun w => by kernel_rfl
theorem zv57 : Zv Try.prog 57 (.slice none 0 0) := fun w => by kernel_rfl
theorem nf57 : (Try.prog.info? 57).map (fun i => (i.zero, i.size, i.bytes)) = some (some (.slice none 0 0), 1, 24) := by kernel_rfl
theorem sz58 : Sz Try.prog 58 2 := fun w => by kernel_rfl
theorem ag58 : Ag Try.prog 58 2 := fun w => ⟨by kernel_rfl, by kernel_rfl⟩
theorem zv58 : Zv Try.prog 58 (.agg #[.slice none 0 0, .slice none 0 0]) := fun w => by kernel_rfl
theorem nf58 : (Try.prog.info? 58).map (fun i => (i.zero, i.size, i.bytes)) = some (some (.agg #[.slice none 0 0, .slice none 0 0]), 2, 48) := by kernel_rfl
theorem sz60 : Sz Try.prog 60 15 := fun w => by kernel_rfl
theorem ag60 : Ag Try.prog 60 15 := fun w => ⟨by kernel_rfl, by kernel_rfl⟩
theorem fld60_0 : Fld Try.prog 60 0 0 := fun a w => by kernel_rfl
theorem fld60_1 : Fld Try.prog 60 1 10 := fun a w => by kernel_rfl
theorem fld60_2 : Fld Try.prog 60 2 11 := fun a w => by kernel_rfl
theorem fld60_3 : Fld Try.prog 60 3 13 := fun a w => by kernel_rfl
theorem zv60 : Zv Try.prog 60 (.agg #[.int .u64 0, .slice none 0 0, .int .i64 0, .slice none 0 0, .int .i64 0, .int .u64 0, .slice none 0 0, .int .i64 0, .slice none 0 0, .int .i64 0, .slice none 0 0, .slice none 0 0, .slice none 0 0, .slice none 0 0, .slice none 0 0]) := fun w => by kernel_rfl
theorem nf60 : (Try.prog.info? 60).map (fun i => (i.zero, i.size, i.bytes)) = some (some (.agg #[.int .u64 0, .slice none 0 0, .int .i64 0, .slice none 0 0, .int .i64 0, .int .u64 0, .slice none 0 0, .int .i64 0, .slice none 0 0, .int .i64 0, .slice none 0 0, .slice none 0 0, .slice none 0 0, .slice none 0 0, .slice none 0 0]), 15, 264) := by kernel_rfl
theorem sz64 : Sz Try.prog 64 3 := fun w => by kernel_rfl
theorem ag64 : Ag Try.prog 64 3 := fun w => ⟨by kernel_rfl, by kernel_rfl⟩
theorem fld64_0 : Fld Try.prog 64 0 0 := fun a w => by kernel_rfl
theorem fld64_1 : Fld Try.prog 64 1 1 := fun a w => by kernel_rfl
theorem fld64_2 : Fld Try.prog 64 2 2 := fun a w => by kernel_rfl
theorem zv64 : Zv Try.prog 64 (.agg #[.int .u8 0, .int .u8 0, .slice none 0 0]) := fun w => by kernel_rfl
theorem nf64 : (Try.prog.info? 64).map (fun i => (i.zero, i.size, i.bytes)) = some (some (.agg #[.int .u8 0, .int .u8 0, .slice none 0 0]), 3, 32) := by kernel_rfl
theorem sz69 : Sz Try.prog 69 3 := fun w => by kernel_rfl
theorem ag69 : Ag Try.prog 69 3 := fun w => ⟨by kernel_rfl, by kernel_rfl⟩
theorem zv69 : Zv Try.prog 69 (.agg #[.int .i64 0, .int .i64 0, .int .i64 0]) := fun w => by kernel_rfl
theorem nf69 : (Try.prog.info? 69).map (fun i => (i.zero, i.size, i.bytes)) = some (some (.agg #[.int .i64 0, .int .i64 0, .int .i64 0]), 3, 24) := by kernel_rfl
theorem sz73 : Sz Try.prog 73 5 := fun w => by kernel_rfl
theorem ag73 : Ag Try.prog 73 5 := fun w => ⟨by kernel_rfl, by kernel_rfl⟩
theorem fld73_0 : Fld Try.prog 73 0 0 := fun a w => by kernel_rfl
theorem fld73_1 : Fld Try.prog 73 1 1 := fun a w => by kernel_rfl
theorem zv73 : Zv Try.prog 73 (.agg #[.int .i64 0, .int .i64 0, .int .i64 0, .slice none 0 0, .int .u64 0]) := fun w => by kernel_rfl
theorem nf73 : (Try.prog.info? 73).map (fun i => (i.zero, i.size, i.bytes)) = some (some (.agg #[.int .i64 0, .int .i64 0, .int .i64 0, .slice none 0 0, .int .u64 0]), 5, 56) := by kernel_rfl
theorem sz75 : Sz Try.prog 75 4 := fun w => by kernel_rfl
theorem ag75 : Ag Try.prog 75 4 := fun w => ⟨by kernel_rfl, by kernel_rfl⟩
theorem zv75 : Zv Try.prog 75 (.agg #[.int .u8 0, .int .u8 0, .int .u8 0, .int .u8 0]) := fun w => by kernel_rfl
theorem nf75 : (Try.prog.info? 75).map (fun i => (i.zero, i.size, i.bytes)) = some (some (.agg #[.int .u8 0, .int .u8 0, .int .u8 0, .int .u8 0]), 4, 4) := by kernel_rfl
theorem sz78 : Sz Try.prog 78 1 := fun w => by kernel_rfl
theorem sc78 : Sc Try.prog 78 := fun w => by kernel_rfl
theorem zv78 : Zv Try.prog 78 (.slice none 0 0) := fun w => by kernel_rfl
theorem nf78 : (Try.prog.info? 78).map (fun i => (i.zero, i.size, i.bytes)) = some (some (.slice none 0 0), 1, 24) := by kernel_rfl
theorem sz97 : Sz Try.prog 97 1 := fun w => by kernel_rfl
theorem sc97 : Sc Try.prog 97 := fun w => by kernel_rfl
theorem zv97 : Zv Try.prog 97 (.pointer none) := fun w => by kernel_rfl
theorem nf97 : (Try.prog.info? 97).map (fun i => (i.zero, i.size, i.bytes)) = some (some (.pointer none), 1, 8) := by kernel_rfl
theorem sz102 : Sz Try.prog 102 1 := fun w => by kernel_rfl
theorem sc102 : Sc Try.prog 102 := fun w => by kernel_rfl
theorem zv102 : Zv Try.prog 102 (.int .u64 0) := fun w => by kernel_rfl
theorem nf102 : (Try.prog.info? 102).map (fun i => (i.zero, i.size, i.bytes)) = some (some (.int .u64 0), 1, 8) := by kernel_rfl
theorem sz104 : Sz Try.prog 104 1 := fun w => by kernel_rfl
theorem sc104 : Sc Try.prog 104 := fun w => by kernel_rfl
theorem zv104 : Zv Try.prog 104 (.pointer none) := fun w => by kernel_rfl
theorem nf104 : (Try.prog.info? 104).map (fun i => (i.zero, i.size, i.bytes)) = some (some (.pointer none), 1, 8) := by kernel_rfl
theorem sz105 : Sz Try.prog 105 1 := fun w => by kernel_rfl
theorem sc105 : Sc Try.prog 105 := fun w => by kernel_rfl
theorem zv105 : Zv Try.prog 105 (.slice none 0 0) := fun w => by kernel_rfl
theorem nf105 : (Try.prog.info? 105).map (fun i => (i.zero, i.size, i.bytes)) = some (some (.slice none 0 0), 1, 24) := by kernel_rfl
theorem hfol : Try.prog.follows .mixedOrders = true := by kernel_rfl
theorem hb3 : HasBody Try.prog 3 := hasBody_of Try.func3 (by kernel_rfl) (by kernel_rfl)
theorem hb4 : HasBody Try.prog 4 := hasBody_of Try.func4 (by kernel_rfl) (by kernel_rfl)
theorem hb5 : HasBody Try.prog 5 := hasBody_of Try.func5 (by kernel_rfl) (by kernel_rfl)
theorem hb6 : HasBody Try.prog 6 := hasBody_of Try.func6 (by kernel_rfl) (by kernel_rfl)
theorem hb7 : HasBody Try.prog 7 := hasBody_of Try.func7 (by kernel_rfl) (by kernel_rfl)
theorem hb8 : HasBody Try.prog 8 := hasBody_of Try.func8 (by kernel_rfl) (by kernel_rfl)
theorem hb9 : HasBody Try.prog 9 := hasBody_of Try.func9 (by kernel_rfl) (by kernel_rfl)
theorem hb10 : HasBody Try.prog 10 := hasBody_of Try.func10 (by kernel_rfl) (by kernel_rfl)
theorem hb11 : HasBody Try.prog 11 := hasBody_of Try.func11 (by kernel_rfl) (by kernel_rfl)
theorem hb12 : HasBody Try.prog 12 := hasBody_of Try.func12 (by kernel_rfl) (by kernel_rfl)
theorem hb13 : HasBody Try.prog 13 := hasBody_of Try.func13 (by kernel_rfl) (by kernel_rfl)
theorem hb14 : HasBody Try.prog 14 := hasBody_of Try.func14 (by kernel_rfl) (by kernel_rfl)
theorem hb15 : HasBody Try.prog 15 := hasBody_of Try.func15 (by kernel_rfl) (by kernel_rfl)
theorem hb16 : HasBody Try.prog 16 := hasBody_of Try.func16 (by kernel_rfl) (by kernel_rfl)
theorem hb17 : HasBody Try.prog 17 := hasBody_of Try.func17 (by kernel_rfl) (by kernel_rfl)
theorem hb18 : HasBody Try.prog 18 := hasBody_of Try.func18 (by kernel_rfl) (by kernel_rfl)
theorem hb19 : HasBody Try.prog 19 := hasBody_of Try.func19 (by kernel_rfl) (by kernel_rfl)
theorem hb20 : HasBody Try.prog 20 := hasBody_of Try.func20 (by kernel_rfl) (by kernel_rfl)
theorem hb21 : HasBody Try.prog 21 := hasBody_of Try.func21 (by kernel_rfl) (by kernel_rfl)
theorem hb22 : HasBody Try.prog 22 := hasBody_of Try.func22 (by kernel_rfl) (by kernel_rfl)
theorem hb23 : HasBody Try.prog 23 := hasBody_of Try.func23 (by kernel_rfl) (by kernel_rfl)
theorem hb24 : HasBody Try.prog 24 := hasBody_of Try.func24 (by kernel_rfl) (by kernel_rfl)
theorem hb25 : HasBody Try.prog 25 := hasBody_of Try.func25 (by kernel_rfl) (by kernel_rfl)
theorem hb26 : HasBody Try.prog 26 := hasBody_of Try.func26 (by kernel_rfl) (by kernel_rfl)
theorem hb27 : HasBody Try.prog 27 := hasBody_of Try.func27 (by kernel_rfl) (by kernel_rfl)
theorem hb28 : HasBody Try.prog 28 := hasBody_of Try.func28 (by kernel_rfl) (by kernel_rfl)
theorem hb29 : HasBody Try.prog 29 := hasBody_of Try.func29 (by kernel_rfl) (by kernel_rfl)
theorem hb30 : HasBody Try.prog 30 := hasBody_of Try.func30 (by kernel_rfl) (by kernel_rfl)
theorem hb31 : HasBody Try.prog 31 := hasBody_of Try.func31 (by kernel_rfl) (by kernel_rfl)
theorem hb32 : HasBody Try.prog 32 := hasBody_of Try.func32 (by kernel_rfl) (by kernel_rfl)
theorem hb33 : HasBody Try.prog 33 := hasBody_of Try.func33 (by kernel_rfl) (by kernel_rfl)
theorem hb34 : HasBody Try.prog 34 := hasBody_of Try.func34 (by kernel_rfl) (by kernel_rfl)
theorem hb35 : HasBody Try.prog 35 := hasBody_of Try.func35 (by kernel_rfl) (by kernel_rfl)
theorem hb36 : HasBody Try.prog 36 := hasBody_of Try.func36 (by kernel_rfl) (by kernel_rfl)
theorem hb37 : HasBody Try.prog 37 := hasBody_of Try.func37 (by kernel_rfl) (by kernel_rfl)
theorem hb38 : HasBody Try.prog 38 := hasBody_of Try.func38 (by kernel_rfl) (by kernel_rfl)
theorem hb39 : HasBody Try.prog 39 := hasBody_of Try.func39 (by kernel_rfl) (by kernel_rfl)
theorem hb40 : HasBody Try.prog 40 := hasBody_of Try.func40 (by kernel_rfl) (by kernel_rfl)
theorem hb41 : HasBody Try.prog 41 := hasBody_of Try.func41 (by kernel_rfl) (by kernel_rfl)
theorem hb42 : HasBody Try.prog 42 := hasBody_of Try.func42 (by kernel_rfl) (by kernel_rfl)
theorem hb43 : HasBody Try.prog 43 := hasBody_of Try.func43 (by kernel_rfl) (by kernel_rfl)
theorem hb44 : HasBody Try.prog 44 := hasBody_of Try.func44 (by kernel_rfl) (by kernel_rfl)
theorem hb45 : HasBody Try.prog 45 := hasBody_of Try.func45 (by kernel_rfl) (by kernel_rfl)
theorem hb46 : HasBody Try.prog 46 := hasBody_of Try.func46 (by kernel_rfl) (by kernel_rfl)
theorem hb47 : HasBody Try.prog 47 := hasBody_of Try.func47 (by kernel_rfl) (by kernel_rfl)
theorem hb48 : HasBody Try.prog 48 := hasBody_of Try.func48 (by kernel_rfl) (by kernel_rfl)
theorem hb49 : HasBody Try.prog 49 := hasBody_of Try.func49 (by kernel_rfl) (by kernel_rfl)
theorem hb50 : HasBody Try.prog 50 := hasBody_of Try.func50 (by kernel_rfl) (by kernel_rfl)
theorem hb51 : HasBody Try.prog 51 := hasBody_of Try.func51 (by kernel_rfl) (by kernel_rfl)
theorem hb52 : HasBody Try.prog 52 := hasBody_of Try.func52 (by kernel_rfl) (by kernel_rfl)
theorem hb53 : HasBody Try.prog 53 := hasBody_of Try.func53 (by kernel_rfl) (by kernel_rfl)
theorem hb54 : HasBody Try.prog 54 := hasBody_of Try.func54 (by kernel_rfl) (by kernel_rfl)
theorem hb55 : HasBody Try.prog 55 := hasBody_of Try.func55 (by kernel_rfl) (by kernel_rfl)
theorem hb56 : HasBody Try.prog 56 := hasBody_of Try.func56 (by kernel_rfl) (by kernel_rfl)
theorem hb57 : HasBody Try.prog 57 := hasBody_of Try.func57 (by kernel_rfl) (by kernel_rfl)
theorem hb58 : HasBody Try.prog 58 := hasBody_of Try.func58 (by kernel_rfl) (by kernel_rfl)
theorem hb59 : HasBody Try.prog 59 := hasBody_of Try.func59 (by kernel_rfl) (by kernel_rfl)
theorem hb60 : HasBody Try.prog 60 := hasBody_of Try.func60 (by kernel_rfl) (by kernel_rfl)
theorem hb61 : HasBody Try.prog 61 := hasBody_of Try.func61 (by kernel_rfl) (by kernel_rfl)
end Go.Proofs.Ytjjpaghloaggeaa
