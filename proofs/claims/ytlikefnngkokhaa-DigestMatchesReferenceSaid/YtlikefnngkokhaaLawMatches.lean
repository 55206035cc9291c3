/- DigestMatchesReference: whatever the numbers, the bytes and the other arguments: true -/
import Derived.Test.YtlikefnngkokhaaRows
import Derived.Test.YtlikefnngkokhaaLawMW
import Derived.Test.YtlikefnngkokhaaOpenK
import Derived.Test.YtlikefnngkokhaaOpen01
set_option linter.unusedVariables false
set_option linter.unusedSimpArgs false
namespace Go.Proofs.Ytlikefnngkokhaa.digestMatchesReference
open Go.ChangeShapes Go.WideShapes Go.ChangeAt Go.RowKit
open Go.ChangeMaps (open_string shut_string)
theorem own : ownKnob Try.prog.godebug = none := by kernel_rfl
theorem laidOut : laidOutB Try.prog = true := by kernel_rfl
set_option maxRecDepth 100000 in
theorem lifted (os : Os) (started : os.Started) (H : Type) (enc : TypeId × Value → H) :
    ReturnsInHanded {} Try.checked os 7 .any (Rows.digestMatchesReferenceSpec.pre6 enc Try.prog Try.f7 Rows.digestMatchesReferenceRow.domain false) (Rows.digestMatchesReferenceSpec.post enc Try.prog Try.f7 false true false false) := by
  refine returnsInHanded_of_change_sized (C := Try.checked) own started (by kernel_rfl) Try.func7
    (ChangeSpec.witness6 (enc := enc) (C := Try.checked) false ⟨#[], #[.slice none 0 0, .slice none 0 0, .agg #[.int .u64 0, .int .u64 0, .int .i64 0, .slice none 0 0, .int .i64 0, .int .u64 0, .int .u16 0]], []⟩ 8 (by kernel_rfl) (by kernel_rfl) (by kernel_rfl) (by kernel_rfl)) ?_
  intro W base args ds gs before hval0 hW hcnd hsz0 _
  have hval : ∀ (j : Nat) t v, Try.f7.params[j]? = some t → args[j]? = some v → Value.okWide Try.prog W .any base t v := hval0
  have hW' := hW
  obtain ⟨p, q, hA0, hV, rfl, hfz, hnd⟩ := hW
  have hA : DataW.TrodAll enc Try.prog W 0 (fun _ => true) true Try.f7.params.toList args.toList ds p := hA0
  rw [Try.params7] at hA hval
  obtain ⟨v0, vs0, d0, ds0, p0, q0, hargs, rfl, rfl, h0, r0⟩ := trodAll_cons hA
  obtain ⟨v1, vs1, d1, ds1, p1, q1, rfl, rfl, rfl, h1, r1⟩ := trodAll_cons r0
  obtain ⟨v2, vs2, d2, ds2, p2, q2, rfl, rfl, rfl, h2, r2⟩ := trodAll_cons r1
  obtain ⟨rfl, rfl, rfl⟩ := trodAll_nil r2
  obtain rfl : args = #[v0, v1, v2] := by cases args; simp_all
  obtain ⟨rfl, rfl⟩ := trodVars_none hV
  have lt0 := places_lt h0
  have lt1 := places_lt h1
  have lt2 := places_lt h2
  obtain ⟨A0, l0, c0, e0, hc0, hr0, hw0⟩ := open_sl Try.underlying47 Try.underlying3 (by kernel_rfl) (hval 0 47 v0 rfl rfl) h0
  subst e0
  obtain ⟨A1, l1, c1, e1, hc1, hr1, hw1⟩ := open_sl Try.underlying48 Try.underlying5 (by kernel_rfl) (hval 1 48 v1 rfl rfl) h1
  subst e1
  obtain ⟨a2, b2, n2, C2, ps2, cp2, i2, d2, q2, rfl, hpc2, hP2, hq2⟩ := open_odd (hval 2 50 v2 rfl rfl) h2
  clear hA0 hval0 hsz0
  refine Calls.mono (matches_ret (sat_imOf W) (els_of_rd hr0 (fun z hz => inK_of_wf (hw0 z hz))) hc0 (els_of_rd hr1 (fun z hz => inK_of_wf (hw1 z hz))) hc1 hP2 hpc2 hq2) fun e W' ⟨v, he, hv, bel⟩ => ?_
  subst hv he
  exact ⟨_, rfl, _, _, _, [], _, [], hW', trodAll_mk1 (shut_bool Try.underlying4 _), (trodAll_cons_mk (Below.trod laidOut (by kernel_rfl) (of_decide_eq_true (by kernel_rfl)) h0 bel.b lt0) (trodAll_cons_mk (Below.trod laidOut (by kernel_rfl) (of_decide_eq_true (by kernel_rfl)) h1 bel.b lt1) (trodAll_cons_mk (Below.trod laidOut (by kernel_rfl) (of_decide_eq_true (by kernel_rfl)) h2 bel.b lt2) trodAll_mk0))), rfl, bel.b.frame _, fun h => by cases h⟩
theorem over : Rows.digestMatchesReferenceRow.holds Try.pinned (OpenSpec.ofChange Rows.digestMatchesReferenceSpec) :=
  OpenClaim.holds_of_wide 7 Try.f7 rfl rfl rfl rfl rfl rfl rfl ⟨rfl, rfl, rfl, rfl, rfl⟩ rfl rfl rfl rfl rfl (by kernel_rfl) Try.func7 (by kernel_rfl)
    (of_decide_eq_true (by kernel_rfl)) (by unfold Func.isWrapper; first | (rw [if_pos (by decide +kernel)]; kernel_rfl) | (rw [if_neg (by decide +kernel)]; exact ⟨rfl, rfl⟩))
    (fun os started H enc _ => lifted os started H enc)
end Go.Proofs.Ytlikefnngkokhaa.digestMatchesReference
namespace Go.Proofs.Ytlikefnngkokhaa
theorem digestMatchesReference_holds : Rows.DigestMatchesReferenceSaid := digestMatchesReference.over
#print axioms digestMatchesReference_holds
end Go.Proofs.Ytlikefnngkokhaa
