/- The arguments of the digests' laws, opened. -/
import Derived.Test.YtlikefnngkokhaaOpenG
import Derived.Test.YtlikefnngkokhaaChecked
set_option linter.unusedVariables false
set_option linter.unusedSimpArgs false
namespace Go.Proofs.Ytlikefnngkokhaa
open Go.ChangeShapes Go.WideShapes Go.ChangeAt Go.RowKit
variable {H : Type} {enc : TypeId × Value → H} {w : World} {base base' : Nat} {held : Bool} {r : Reach}
theorem open_odd {v : Value} {dd : DataW H} {p : List MemPlace} (hok : Value.okWide Try.prog w r base' 50 v) (h : DataW.Trod enc Try.prog w base (fun _ => true) held 50 v dd p) :
    ∃ a b n C ps cp i d q, v = .agg #[.int .u64 a, .int .u64 b, .int .i64 n, .slice C (List.length ps) cp, .int .i64 i, .int .u64 d, .int .u16 q] ∧ ps.length ≤ cp ∧ Els (kInt .u64) (imOf w) C ps ∧ (0 ≤ q ∧ q ≤ 65535) := by
  obtain ⟨cs, y, rfl, hy⟩ := open_agg Try.underlying50 (opens_struct Try.underlying50 (by kernel_rfl)
    (opF_cons rfl (by kernel_rfl) (opens_int Try.underlying33) (opF_cons rfl (by kernel_rfl) (opens_int Try.underlying33)
    (opF_cons rfl (by kernel_rfl) (opens_struct Try.underlying36 (by kernel_rfl) (opF_cons rfl (by kernel_rfl) (opens_int Try.underlying3) (opF_one rfl (by kernel_rfl) (opens_slice Try.underlying22 (by kernel_rfl) (by decide) (opens_int Try.underlying33)))))
    (opF_cons rfl (by kernel_rfl) (opens_struct Try.underlying38 (by kernel_rfl) (opF_cons rfl (by kernel_rfl) (opens_int Try.underlying3) (opF_one rfl (by kernel_rfl) (opens_int Try.underlying33))))
    (opF_one rfl (by kernel_rfl) (opens_int Try.underlying23))))))) hok h
  obtain ⟨_, _, rfl, ⟨rfl, _⟩, _, _, rfl, ⟨rfl, _⟩, _, _, rfl, ⟨_, _, rfl, ⟨rfl, _⟩, C, cp, rfl, hpc, hP⟩, _, _, rfl, ⟨_, _, rfl, ⟨rfl, _⟩, rfl, _⟩, rfl, hq⟩ := hy
  exact ⟨_, _, _, C, _, cp, _, _, _, rfl, hpc, hP, hq⟩
end Go.Proofs.Ytlikefnngkokhaa
