/- DigestChanges: for every list of digests, every two numbers and every digest the function of the law returns true and leaves its arguments as they were. No condition. -/
import Derived.Test.YtlikefnngkokhaaRows
import Derived.Test.YtlikefnngkokhaaLawChangesW
import Derived.Test.YtlikefnngkokhaaOpen
set_option linter.unusedVariables false
set_option linter.unusedSimpArgs false
namespace Go.Proofs.Ytlikefnngkokhaa.digestChanges
open Go.ChangeShapes Go.WideShapes Go.ChangeAt Go.RowKit
open Go.ChangeMaps (open_string shut_string)
theorem own : ownKnob Try.prog.godebug = none := by kernel_rfl
theorem laidOut : laidOutB Try.prog = true := by kernel_rfl
set_option maxRecDepth 100000 in
theorem lifted (os : Os) (started : os.Started) (H : Type) (enc : TypeId × Value → H) :
    ReturnsInHanded {} Try.checked os 5 .any (Rows.digestChangesSpec.pre6 enc Try.prog Try.f5 Rows.digestChangesRow.domain false) (Rows.digestChangesSpec.post enc Try.prog Try.f5 false true false false) := by
  refine returnsInHanded_of_change_sized (C := Try.checked) own started (by kernel_rfl) Try.func5
    (ChangeSpec.witness6 (enc := enc) (C := Try.checked) false ⟨#[], #[.slice none 0 0, .agg #[.int .u16 0, .int .u16 0], .int .u64 0], []⟩ 8 (by kernel_rfl) (by kernel_rfl) (by kernel_rfl) (by kernel_rfl)) ?_
  intro W base args ds gs before hval0 hW hcnd hsz0 _
  have hval : ∀ (j : Nat) t v, Try.f5.params[j]? = some t → args[j]? = some v → Value.okWide Try.prog W .any base t v := hval0
  have hW' := hW
  obtain ⟨p, q, hA0, hV, rfl, hfz, hnd⟩ := hW
  have hA : DataW.TrodAll enc Try.prog W 0 (fun _ => true) true Try.f5.params.toList args.toList ds p := hA0
  rw [Try.params5] at hA hval
  obtain ⟨v0, vs0, d0, ds0, p0, q0, hargs, rfl, rfl, h0, r0⟩ := trodAll_cons hA
  obtain ⟨v1, vs1, d1, ds1, p1, q1, rfl, rfl, rfl, h1, r1⟩ := trodAll_cons r0
  obtain ⟨v2, vs2, d2, ds2, p2, q2, rfl, rfl, rfl, h2, r2⟩ := trodAll_cons r1
  obtain ⟨rfl, rfl, rfl⟩ := trodAll_nil r2
  obtain rfl : args = #[v0, v1, v2] := by cases args; simp_all
  obtain ⟨rfl, rfl⟩ := trodVars_none hV
  have lt0 := places_lt h0
  have lt1 := places_lt h1
  have lt2 := places_lt h2
  obtain ⟨A0, l0, c0, e0, hc0, hr0, hw0⟩ := open_sl Try.underlying22 Try.underlying33 (by kernel_rfl) (hval 0 22 v0 rfl rfl) h0
  subst e0
  obtain ⟨zs1, e1, hz1, hw1⟩ := open_arr Try.underlying24 Try.underlying23 (by kernel_rfl) (by kernel_rfl) (hval 1 24 v1 rfl rfl) h1
  obtain ⟨z1_0, z1_1, rfl⟩ : ∃ z1_0 z1_1, zs1 = [z1_0, z1_1] := by
    match zs1, hz1 with
    | [a0, a1], _ => exact ⟨_, _, rfl⟩
  have hz1_0 := bounds_u16 (hw1 z1_0 (by simp))
  have hz1_1 := bounds_u16 (hw1 z1_1 (by simp))
  have e1' : v1 = .agg #[.int .u16 z1_0, .int .u16 z1_1] := e1
  clear e1
  subst e1'
  obtain ⟨x2, rfl, rfl, rfl, w2⟩ := open_int Try.underlying33 (hval 2 33 v2 rfl rfl) h2
  have hx2 := bounds_u64 w2
  clear hA0 hval0 hsz0
  refine (changes_int A0 l0 c0 z1_0 z1_1 x2 W hc0 hr0 hw0 hz1_0 hz1_1 hx2).mono fun e W' ⟨he, bel⟩ => ?_
  subst he
  exact ⟨_, rfl, _, _, _, [], _, [], hW', trodAll_mk1 (shut_bool Try.underlying4 _), (trodAll_cons_mk (Below.trod laidOut (by kernel_rfl) (of_decide_eq_true (by kernel_rfl)) h0 bel.b lt0) (trodAll_cons_mk (Below.trod laidOut (by kernel_rfl) (of_decide_eq_true (by kernel_rfl)) h1 bel.b lt1) (trodAll_cons_mk (shut_int Try.underlying33 w2) trodAll_mk0))), rfl, bel.b.frame _, fun h => by cases h⟩
theorem over : Rows.digestChangesRow.holds Try.pinned (OpenSpec.ofChange Rows.digestChangesSpec) :=
  OpenClaim.holds_of_wide 5 Try.f5 rfl rfl rfl rfl rfl rfl rfl ⟨rfl, rfl, rfl, rfl, rfl⟩ rfl rfl rfl rfl rfl (by kernel_rfl) Try.func5 (by kernel_rfl)
    (of_decide_eq_true (by kernel_rfl)) (by unfold Func.isWrapper; first | (rw [if_pos (by decide +kernel)]; kernel_rfl) | (rw [if_neg (by decide +kernel)]; exact ⟨rfl, rfl⟩))
    (fun os started H enc _ => lifted os started H enc)
end Go.Proofs.Ytlikefnngkokhaa.digestChanges
namespace Go.Proofs.Ytlikefnngkokhaa
theorem digestChanges_holds : Rows.DigestChangesSaid := digestChanges.over
#print axioms digestChanges_holds
end Go.Proofs.Ytlikefnngkokhaa
