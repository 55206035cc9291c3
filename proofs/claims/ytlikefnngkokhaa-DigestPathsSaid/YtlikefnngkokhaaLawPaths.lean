/- DigestPaths: for every list of digests and every two numbers, the law's function returns true and leaves its arguments as they were. No condition. -/
import Derived.Test.YtlikefnngkokhaaRows
import Derived.Test.YtlikefnngkokhaaLawPathsW
import Derived.Test.YtlikefnngkokhaaOpen
set_option linter.unusedVariables false
set_option linter.unusedSimpArgs false
namespace Go.Proofs.Ytlikefnngkokhaa.digestPaths
open Go.ChangeShapes Go.WideShapes Go.ChangeAt Go.RowKit
open Go.ChangeMaps (open_string shut_string)
theorem own : ownKnob Try.prog.godebug = none := by kernel_rfl
theorem laidOut : laidOutB Try.prog = true := by kernel_rfl
set_option maxRecDepth 100000 in
theorem lifted (os : Os) (started : os.Started) (H : Type) (enc : TypeId × Value → H) :
    ReturnsInHanded {} Try.checked os 3 .any (Rows.digestPathsSpec.pre6 enc Try.prog Try.f3 Rows.digestPathsRow.domain false) (Rows.digestPathsSpec.post enc Try.prog Try.f3 false true false false) := by
  refine returnsInHanded_of_change_sized (C := Try.checked) own started (by kernel_rfl) Try.func3
    (ChangeSpec.witness6 (enc := enc) (C := Try.checked) false ⟨#[], #[.slice none 0 0, .agg #[.int .u16 0, .int .u16 0]], []⟩ 8 (by kernel_rfl) (by kernel_rfl) (by kernel_rfl) (by kernel_rfl)) ?_
  intro W base args ds gs before hval0 hW hcnd hsz0 _
  have hval : ∀ (j : Nat) t v, Try.f3.params[j]? = some t → args[j]? = some v → Value.okWide Try.prog W .any base t v := hval0
  have hW' := hW
  obtain ⟨p, q, hA0, hV, rfl, hfz, hnd⟩ := hW
  have hA : DataW.TrodAll enc Try.prog W 0 (fun _ => true) true Try.f3.params.toList args.toList ds p := hA0
  rw [Try.params3] at hA hval
  obtain ⟨v0, vs0, d0, ds0, p0, q0, hargs, rfl, rfl, h0, r0⟩ := trodAll_cons hA
  obtain ⟨v1, vs1, d1, ds1, p1, q1, rfl, rfl, rfl, h1, r1⟩ := trodAll_cons r0
  obtain ⟨rfl, rfl, rfl⟩ := trodAll_nil r1
  obtain rfl : args = #[v0, v1] := by cases args; simp_all
  obtain ⟨rfl, rfl⟩ := trodVars_none hV
  have lt0 := places_lt h0
  have lt1 := places_lt h1
  obtain ⟨A, l, c, rfl, hc, hr, _⟩ := open_sl Try.underlying22 Try.underlying33 (by kernel_rfl) (hval 0 22 v0 rfl rfl) h0
  obtain ⟨zs, hv1, hz, hwz⟩ := open_arr Try.underlying24 Try.underlying23 (by kernel_rfl) (by kernel_rfl) (hval 1 24 v1 rfl rfl) h1
  match zs, hz, hwz, hv1 with
  | [a, b], _, hwz, hv1 =>
    have ha := bounds_u16 (hwz a (by simp))
    have hb := bounds_u16 (hwz b (by simp))
    obtain ⟨a, rfl⟩ := Int.eq_ofNat_of_zero_le ha.1
    obtain ⟨b, rfl⟩ := Int.eq_ofNat_of_zero_le hb.1
    have e1 : v1 = .agg #[.int .u16 a, .int .u16 b] := hv1
    subst e1
    clear hA0 hval0 hsz0
    refine (paths_walk A l c a b W hc hr (by omega) (by omega)).mono fun e W' ⟨he, bel⟩ => ?_
    subst he
    exact ⟨_, rfl, _, _, _, [], _, [], hW', trodAll_mk1 (shut_bool Try.underlying4 _), (trodAll_cons_mk (Below.trod laidOut (by kernel_rfl) (of_decide_eq_true (by kernel_rfl)) h0 bel.b lt0) (trodAll_cons_mk (Below.trod laidOut (by kernel_rfl) (of_decide_eq_true (by kernel_rfl)) h1 bel.b lt1) trodAll_mk0)), rfl, bel.b.frame _, fun h => by cases h⟩
theorem over : Rows.digestPathsRow.holds Try.pinned (OpenSpec.ofChange Rows.digestPathsSpec) :=
  OpenClaim.holds_of_wide 3 Try.f3 rfl rfl rfl rfl rfl rfl rfl ⟨rfl, rfl, rfl, rfl, rfl⟩ rfl rfl rfl rfl rfl (by kernel_rfl) Try.func3 (by kernel_rfl)
    (of_decide_eq_true (by kernel_rfl)) (by unfold Func.isWrapper; first | (rw [if_pos (by decide +kernel)]; kernel_rfl) | (rw [if_neg (by decide +kernel)]; exact ⟨rfl, rfl⟩))
    (fun os started H enc _ => lifted os started H enc)
end Go.Proofs.Ytlikefnngkokhaa.digestPaths
namespace Go.Proofs.Ytlikefnngkokhaa
theorem digestPaths_holds : Rows.DigestPathsSaid := digestPaths.over
#print axioms digestPaths_holds
end Go.Proofs.Ytlikefnngkokhaa
