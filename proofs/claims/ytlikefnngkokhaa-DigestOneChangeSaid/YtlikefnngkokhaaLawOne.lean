/- DigestOneChange: whatever the numbers, the bytes and the four numbers: true -/
import Derived.Test.YtlikefnngkokhaaRows
import Derived.Test.YtlikefnngkokhaaLawOW
import Derived.Test.YtlikefnngkokhaaOpenK
set_option linter.unusedVariables false
set_option linter.unusedSimpArgs false
namespace Go.Proofs.Ytlikefnngkokhaa.digestOneChange
open Go.ChangeShapes Go.WideShapes Go.ChangeAt Go.RowKit
open Go.ChangeMaps (open_string shut_string)
theorem own : ownKnob Try.prog.godebug = none := by kernel_rfl
theorem laidOut : laidOutB Try.prog = true := by kernel_rfl
set_option maxRecDepth 100000 in
theorem lifted (os : Os) (started : os.Started) (H : Type) (enc : TypeId × Value → H) :
    ReturnsInHanded {} Try.checked os 8 .any (Rows.digestOneChangeSpec.pre6 enc Try.prog Try.f8 Rows.digestOneChangeRow.domain false) (Rows.digestOneChangeSpec.post enc Try.prog Try.f8 false true false false) := by
  refine returnsInHanded_of_change_sized (C := Try.checked) own started (by kernel_rfl) Try.func8
    (ChangeSpec.witness6 (enc := enc) (C := Try.checked) false ⟨#[], #[.slice none 0 0, .slice none 0 0, .agg #[.int .u64 0, .int .u64 0, .int .u64 0, .int .u64 0]], []⟩ 8 (by kernel_rfl) (by kernel_rfl) (by kernel_rfl) (by kernel_rfl)) ?_
  intro W base args ds gs before hval0 hW hcnd hsz0 _
  have hval : ∀ (j : Nat) t v, Try.f8.params[j]? = some t → args[j]? = some v → Value.okWide Try.prog W .any base t v := hval0
  have hW' := hW
  obtain ⟨p, q, hA0, hV, rfl, hfz, hnd⟩ := hW
  have hA : DataW.TrodAll enc Try.prog W 0 (fun _ => true) true Try.f8.params.toList args.toList ds p := hA0
  rw [Try.params8] at hA hval
  obtain ⟨v0, vs0, d0, ds0, p0, q0, hargs, rfl, rfl, h0, r0⟩ := trodAll_cons hA
  obtain ⟨v1, vs1, d1, ds1, p1, q1, rfl, rfl, rfl, h1, r1⟩ := trodAll_cons r0
  obtain ⟨v2, vs2, d2, ds2, p2, q2, rfl, rfl, rfl, h2, r2⟩ := trodAll_cons r1
  obtain ⟨rfl, rfl, rfl⟩ := trodAll_nil r2
  obtain rfl : args = #[v0, v1, v2] := by cases args; simp_all
  obtain ⟨rfl, rfl⟩ := trodVars_none hV
  have lt0 := places_lt h0
  have lt1 := places_lt h1
  have lt2 := places_lt h2
  obtain ⟨A0, l0, c0, e0, hc0, hr0, hw0⟩ := open_sl Try.underlying47 Try.underlying3 (by kernel_rfl) (hval 0 47 v0 rfl rfl) h0
  subst e0
  obtain ⟨A1, l1, c1, e1, hc1, hr1, hw1⟩ := open_sl Try.underlying48 Try.underlying5 (by kernel_rfl) (hval 1 48 v1 rfl rfl) h1
  subst e1
  obtain ⟨zs2, e2, hz2, hw2⟩ := open_arr Try.underlying56 Try.underlying33 (by kernel_rfl) (by kernel_rfl) (hval 2 56 v2 rfl rfl) h2
  obtain ⟨z2_0, z2_1, z2_2, z2_3, rfl⟩ : ∃ z2_0 z2_1 z2_2 z2_3, zs2 = [z2_0, z2_1, z2_2, z2_3] := by
    match zs2, hz2 with
    | [a0, a1, a2, a3], _ => exact ⟨_, _, _, _, rfl⟩
  have hz2_0 := bounds_u64 (hw2 z2_0 (by simp))
  have hz2_1 := bounds_u64 (hw2 z2_1 (by simp))
  have hz2_2 := bounds_u64 (hw2 z2_2 (by simp))
  have hz2_3 := bounds_u64 (hw2 z2_3 (by simp))
  have e2' : v2 = .agg #[.int .u64 z2_0, .int .u64 z2_1, .int .u64 z2_2, .int .u64 z2_3] := e2
  clear e2
  subst e2'
  clear hA0 hval0 hsz0
  refine Calls.mono (one_ret (sat_imOf W) (els_of_rd hr0 (fun z hz => inK_of_wf (hw0 z hz))) hc0 (els_of_rd hr1 (fun z hz => inK_of_wf (hw1 z hz))) hc1 ⟨hz2_0.1, by omega⟩ ⟨hz2_1.1, by omega⟩ ⟨hz2_2.1, by omega⟩ ⟨hz2_3.1, by omega⟩) fun e W' ⟨v, he, hv, bel⟩ => ?_
  subst hv he
  exact ⟨_, rfl, _, _, _, [], _, [], hW', trodAll_mk1 (shut_bool Try.underlying4 _), (trodAll_cons_mk (Below.trod laidOut (by kernel_rfl) (of_decide_eq_true (by kernel_rfl)) h0 bel.b lt0) (trodAll_cons_mk (Below.trod laidOut (by kernel_rfl) (of_decide_eq_true (by kernel_rfl)) h1 bel.b lt1) (trodAll_cons_mk (Below.trod laidOut (by kernel_rfl) (of_decide_eq_true (by kernel_rfl)) h2 bel.b lt2) trodAll_mk0))), rfl, bel.b.frame _, fun h => by cases h⟩
theorem over : Rows.digestOneChangeRow.holds Try.pinned (OpenSpec.ofChange Rows.digestOneChangeSpec) :=
  OpenClaim.holds_of_wide 8 Try.f8 rfl rfl rfl rfl rfl rfl rfl ⟨rfl, rfl, rfl, rfl, rfl⟩ rfl rfl rfl rfl rfl (by kernel_rfl) Try.func8 (by kernel_rfl)
    (of_decide_eq_true (by kernel_rfl)) (by unfold Func.isWrapper; first | (rw [if_pos (by decide +kernel)]; kernel_rfl) | (rw [if_neg (by decide +kernel)]; exact ⟨rfl, rfl⟩))
    (fun os started H enc _ => lifted os started H enc)
end Go.Proofs.Ytlikefnngkokhaa.digestOneChange
namespace Go.Proofs.Ytlikefnngkokhaa
theorem digestOneChange_holds : Rows.DigestOneChangeSaid := digestOneChange.over
#print axioms digestOneChange_holds
end Go.Proofs.Ytlikefnngkokhaa
