/- DigestBinds: whatever the digests, the two numbers and the other leaf: true -/
import Derived.Test.YtlikefnngkokhaaRows
import Derived.Test.YtlikefnngkokhaaLawBW
import Derived.Test.YtlikefnngkokhaaOpenK
set_option linter.unusedVariables false
set_option linter.unusedSimpArgs false
namespace Go.Proofs.Ytlikefnngkokhaa.digestBinds
open Go.ChangeShapes Go.WideShapes Go.ChangeAt Go.RowKit
open Go.ChangeMaps (open_string shut_string)
theorem own : ownKnob Try.prog.godebug = none := by kernel_rfl
theorem laidOut : laidOutB Try.prog = true := by kernel_rfl
set_option maxRecDepth 100000 in
theorem lifted (os : Os) (started : os.Started) (H : Type) (enc : TypeId × Value → H) :
    ReturnsInHanded {} Try.checked os 6 .any (Rows.digestBindsSpec.pre6 enc Try.prog Try.f6 Rows.digestBindsRow.domain false) (Rows.digestBindsSpec.post enc Try.prog Try.f6 false true false false) := by
  refine returnsInHanded_of_change_sized (C := Try.checked) own started (by kernel_rfl) Try.func6
    (ChangeSpec.witness6 (enc := enc) (C := Try.checked) false ⟨#[], #[.slice none 0 0, .agg #[.int .u16 0, .int .u16 0], .int .u64 0], []⟩ 8 (by kernel_rfl) (by kernel_rfl) (by kernel_rfl) (by kernel_rfl)) ?_
  intro W base args ds gs before hval0 hW hcnd hsz0 _
  have hval : ∀ (j : Nat) t v, Try.f6.params[j]? = some t → args[j]? = some v → Value.okWide Try.prog W .any base t v := hval0
  have hW' := hW
  obtain ⟨p, q, hA0, hV, rfl, hfz, hnd⟩ := hW
  have hA : DataW.TrodAll enc Try.prog W 0 (fun _ => true) true Try.f6.params.toList args.toList ds p := hA0
  rw [Try.params6] at hA hval
  obtain ⟨v0, vs0, d0, ds0, p0, q0, hargs, rfl, rfl, h0, r0⟩ := trodAll_cons hA
  obtain ⟨v1, vs1, d1, ds1, p1, q1, rfl, rfl, rfl, h1, r1⟩ := trodAll_cons r0
  obtain ⟨v2, vs2, d2, ds2, p2, q2, rfl, rfl, rfl, h2, r2⟩ := trodAll_cons r1
  obtain ⟨rfl, rfl, rfl⟩ := trodAll_nil r2
  obtain rfl : args = #[v0, v1, v2] := by cases args; simp_all
  obtain ⟨rfl, rfl⟩ := trodVars_none hV
  have lt0 := places_lt h0
  have lt1 := places_lt h1
  have lt2 := places_lt h2
  obtain ⟨A0, l0, c0, e0, hc0, hr0, hw0⟩ := open_sl Try.underlying22 Try.underlying33 (by kernel_rfl) (hval 0 22 v0 rfl rfl) h0
  subst e0
  obtain ⟨zs1, e1, hz1, hw1⟩ := open_arr Try.underlying24 Try.underlying23 (by kernel_rfl) (by kernel_rfl) (hval 1 24 v1 rfl rfl) h1
  obtain ⟨z1_0, z1_1, rfl⟩ : ∃ z1_0 z1_1, zs1 = [z1_0, z1_1] := by
    match zs1, hz1 with
    | [a0, a1], _ => exact ⟨_, _, rfl⟩
  have hz1_0 := bounds_u16 (hw1 z1_0 (by simp))
  have hz1_1 := bounds_u16 (hw1 z1_1 (by simp))
  have e1' : v1 = .agg #[.int .u16 z1_0, .int .u16 z1_1] := e1
  clear e1
  subst e1'
  obtain ⟨x2, rfl, rfl, rfl, w2⟩ := open_int Try.underlying33 (hval 2 33 v2 rfl rfl) h2
  have hx2 := bounds_u64 w2
  clear hA0 hval0 hsz0
  refine Calls.mono (binds_ret (sat_imOf W) (els_of_rd hr0 (fun z hz => inK_of_wf (hw0 z hz))) hc0 hz1_0 hz1_1 hx2) fun e W' ⟨v, he, hv, bel⟩ => ?_
  subst hv he
  exact ⟨_, rfl, _, _, _, [], _, [], hW', trodAll_mk1 (shut_bool Try.underlying4 _), (trodAll_cons_mk (Below.trod laidOut (by kernel_rfl) (of_decide_eq_true (by kernel_rfl)) h0 bel.b lt0) (trodAll_cons_mk (Below.trod laidOut (by kernel_rfl) (of_decide_eq_true (by kernel_rfl)) h1 bel.b lt1) (trodAll_cons_mk (shut_int Try.underlying33 w2) trodAll_mk0))), rfl, bel.b.frame _, fun h => by cases h⟩
theorem over : Rows.digestBindsRow.holds Try.pinned (OpenSpec.ofChange Rows.digestBindsSpec) :=
  OpenClaim.holds_of_wide 6 Try.f6 rfl rfl rfl rfl rfl rfl rfl ⟨rfl, rfl, rfl, rfl, rfl⟩ rfl rfl rfl rfl rfl (by kernel_rfl) Try.func6 (by kernel_rfl)
    (of_decide_eq_true (by kernel_rfl)) (by unfold Func.isWrapper; first | (rw [if_pos (by decide +kernel)]; kernel_rfl) | (rw [if_neg (by decide +kernel)]; exact ⟨rfl, rfl⟩))
    (fun os started H enc _ => lifted os started H enc)
end Go.Proofs.Ytlikefnngkokhaa.digestBinds
namespace Go.Proofs.Ytlikefnngkokhaa
theorem digestBinds_holds : Rows.DigestBindsSaid := digestBinds.over
#print axioms digestBinds_holds
end Go.Proofs.Ytlikefnngkokhaa
