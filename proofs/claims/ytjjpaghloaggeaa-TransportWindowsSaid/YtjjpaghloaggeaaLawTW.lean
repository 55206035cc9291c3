/- TransportWindows: packets in order are all received, in the opposite order only the first -/
import Derived.Test.YtjjpaghloaggeaaRows
import Derived.Test.YtjjpaghloaggeaaTrK
import Derived.Test.YtjjpaghloaggeaaOpenK
import Derived.Test.YtjjpaghloaggeaaOpen50
set_option linter.unusedVariables false
set_option linter.unusedSimpArgs false
namespace Go.Proofs.Ytjjpaghloaggeaa.transportWindows
open Go.ChangeShapes Go.WideShapes Go.ChangeAt Go.RowKit
open Go.ChangeMaps (open_string shut_string)
theorem own : ownKnob Try.prog.godebug = none := by kernel_rfl
theorem laidOut : laidOutB Try.prog = true := by kernel_rfl
set_option maxRecDepth 100000 in
theorem lifted (os : Os) (started : os.Started) (H : Type) (enc : TypeId × Value → H) :
    ReturnsInHanded {} Try.checked os 9 .any (Rows.transportWindowsSpec.pre6 enc Try.prog Try.f9 Rows.transportWindowsRow.domain false) (Rows.transportWindowsSpec.post enc Try.prog Try.f9 false true false false) := by
  refine returnsInHanded_of_change_sized (C := Try.checked) own started (by kernel_rfl) Try.func9
    (ChangeSpec.witness6 (enc := enc) (C := Try.checked) false ⟨#[], #[.int .u64 0, .int .u8 0, .agg #[.int .u8 0, .int .u8 0, .int .u8 0, .int .u8 0]], []⟩ 8 (by kernel_rfl) (by kernel_rfl) (by kernel_rfl) (by kernel_rfl)) ?_
  intro W base args ds gs before hval0 hW hcnd hsz0 _
  have hval : ∀ (j : Nat) t v, Try.f9.params[j]? = some t → args[j]? = some v → Value.okWide Try.prog W .any base t v := hval0
  have hW' := hW
  obtain ⟨p, q, hA0, hV, rfl, hfz, hnd⟩ := hW
  have hA : DataW.TrodAll enc Try.prog W 0 (fun _ => true) true Try.f9.params.toList args.toList ds p := hA0
  rw [Try.params9] at hA hval
  obtain ⟨v0, vs0, d0, ds0, p0, q0, hargs, rfl, rfl, h0, r0⟩ := trodAll_cons hA
  obtain ⟨v1, vs1, d1, ds1, p1, q1, rfl, rfl, rfl, h1, r1⟩ := trodAll_cons r0
  obtain ⟨v2, vs2, d2, ds2, p2, q2, rfl, rfl, rfl, h2, r2⟩ := trodAll_cons r1
  obtain ⟨rfl, rfl, rfl⟩ := trodAll_nil r2
  obtain rfl : args = #[v0, v1, v2] := by cases args; simp_all
  obtain ⟨rfl, rfl⟩ := trodVars_none hV
  have lt0 := places_lt h0
  have lt1 := places_lt h1
  have lt2 := places_lt h2
  obtain ⟨x0, rfl, rfl, rfl, w0⟩ := open_int Try.underlying22 (hval 0 22 v0 rfl rfl) h0
  have hx0 := bounds_u64 w0
  obtain ⟨x1, rfl, rfl, rfl, w1⟩ := open_int Try.underlying5 (hval 1 5 v1 rfl rfl) h1
  have hx1 := bounds_u8 w1
  obtain ⟨zs2, e2, hz2, hw2⟩ := open_arr Try.underlying75 Try.underlying5 (by kernel_rfl) (by kernel_rfl) (hval 2 75 v2 rfl rfl) h2
  obtain ⟨z2_0, z2_1, z2_2, z2_3, rfl⟩ : ∃ z2_0 z2_1 z2_2 z2_3, zs2 = [z2_0, z2_1, z2_2, z2_3] := by
    match zs2, hz2 with
    | [a0, a1, a2, a3], _ => exact ⟨_, _, _, _, rfl⟩
  have hz2_0 := bounds_u8 (hw2 z2_0 (by simp))
  have hz2_1 := bounds_u8 (hw2 z2_1 (by simp))
  have hz2_2 := bounds_u8 (hw2 z2_2 (by simp))
  have hz2_3 := bounds_u8 (hw2 z2_3 (by simp))
  have e2' : v2 = .agg #[.int .u8 z2_0, .int .u8 z2_1, .int .u8 z2_2, .int .u8 z2_3] := e2
  clear e2
  subst e2'
  clear hA0 hval0 hsz0
  refine Calls.mono (windows_walk (sat_imOf W) (inK_of_wf w0) (inK_of_wf w1) (by simpa [InK] using hz2_0) (by simpa [InK] using hz2_1) (by simpa [InK] using hz2_2) (by simpa [InK] using hz2_3)) fun e W' ⟨v, he, hv, bel⟩ => ?_
  subst hv he
  exact ⟨_, rfl, _, _, _, [], _, [], hW', trodAll_mk1 (shut_bool Try.underlying4 _), (trodAll_cons_mk (shut_int Try.underlying22 w0) (trodAll_cons_mk (shut_int Try.underlying5 w1) (trodAll_cons_mk (Below.trod laidOut (by kernel_rfl) (of_decide_eq_true (by kernel_rfl)) h2 bel.b lt2) trodAll_mk0))), rfl, bel.b.frame _, fun h => by cases h⟩
theorem over : Rows.transportWindowsRow.holds Try.pinned (OpenSpec.ofChange Rows.transportWindowsSpec) :=
  OpenClaim.holds_of_wide 9 Try.f9 rfl rfl rfl rfl rfl rfl rfl ⟨rfl, rfl, rfl, rfl, rfl⟩ rfl rfl rfl rfl rfl (by kernel_rfl) Try.func9 (by kernel_rfl)
    (of_decide_eq_true (by kernel_rfl)) (by unfold Func.isWrapper; first | (rw [if_pos (by decide +kernel)]; kernel_rfl) | (rw [if_neg (by decide +kernel)]; exact ⟨rfl, rfl⟩))
    (fun os started H enc _ => lifted os started H enc)
end Go.Proofs.Ytjjpaghloaggeaa.transportWindows
namespace Go.Proofs.Ytjjpaghloaggeaa
theorem transportWindows_holds : Rows.TransportWindowsSaid := transportWindows.over
#print axioms transportWindows_holds
end Go.Proofs.Ytjjpaghloaggeaa
