/- Words added to a journal. -/
import Derived.Test.YteinlgobadlgnaaJouB
set_option linter.unusedVariables false
set_option linter.unusedSimpArgs false
namespace Go.Proofs.Yteinlgobadlgnaa
open Go.RowKit


def wsB (ws : List Int) : List Int := ws.flatMap wbytes
theorem wsB_length (ws : List Int) : (wsB ws).length = 8 * ws.length := by
  induction ws with
  | nil => rfl
  | cons x ws ih => simp only [wsB, List.flatMap_cons, List.length_append, wbytes_length, List.length_cons] at ih ⊢; omega
theorem wsB_take {ws : List Int} {k : Nat} (h : k < ws.length) : wsB (ws.take (k + 1)) = wsB (ws.take k) ++ wbytes ws[k] := by
  unfold wsB; rw [List.take_succ_eq_append_getElem h, List.flatMap_append]; simp
theorem wsB_append (a b : List Int) : wsB (a ++ b) = wsB a ++ wsB b := by simp [wsB]
/-- The blocks that a row of one's own from B on, and a box, may be written in. -/
def rowS (J : Im) (B bo : Nat) : Nat → Prop := fun k => k = bo ∨ (B ≤ k ∧ J k = none)

set_option maxRecDepth 100000 in
set_option maxHeartbeats 400000 in
theorem jadd {A : Option Addr} {c bo B : Nat} {v : Value} {xs ws : List Int} {J : Im} {w : World} (hS : Sat J w) (hB : B ≤ w.heap.size) (hbo : Box J w bo [v] 22) (hlt : bo < B) (hA : Apx (kInt .u8) J w B 5 v xs) (hW : Els (kInt .u64) J A ws) (hl : xs.length + 8 * ws.length ≤ 1048576) :
    Ret Try.prog 35 [.slice A ws.length c, .pointer (some ⟨bo, 0, none⟩)] w (fun v' w' => v' = .tuple #[] ∧ ∃ u, Box J w' bo [u] 22 ∧ Apx (kInt .u8) J w' B 5 u (xs ++ wsB ws) ∧ NewS (rowS J B bo) J w J w') := by
  have hwl := hW.1
  refine ret_of (N := 15) Try.func35 rfl rfl rfl fun a0 H0 => ?_
  have hN := New.refl hS
  simp only [argsEnv, Nat.zero_add, Nat.reduceAdd] at H0
  refine wpIn_seq ?_
  refine w_reg ?_
  refine wl1 H0 (r_move rfl) rfl rfl rfl rfl fun a1 H1 => ?_
  clear H0 a0
  refine wl1 H1 (r_len Try.underlying68 rfl) rfl rfl rfl rfl fun a2 H2 => ?_
  clear H1 a1
  refine wl1 H2 (r_move rfl) rfl rfl rfl rfl fun a3 H3 => ?_
  clear H2 a2
  refine wl_end ?_
  refine th_n ?_
  refine wpIn_block ?_
  refine w_loop (ι := Nat × Value) (fun x => [(7, .int .i64 (x.1 : Int))]) (fun x W => (x.1 ≤ ws.length ∧ NewS (rowS J B bo) J w J W ∧ Box J W bo [x.2] 22 ∧ Apx (kInt .u8) J W B 5 x.2 (xs ++ wsB (ws.take x.1)))) (fun x => ws.length - x.1) (l0 := [(1, _), (5, _), (6, _)]) (0, v) H3 ⟨rfl, rfl, rfl, rfl, trivial⟩ ⟨by omega, NewS.refl hS, hbo, by simpa [wsB] using hA⟩ ?_
  rintro ⟨k, u⟩ a4 w1 H4 ⟨hk, hNS, hbr, hAr⟩
  clear H3 a3
  simp only [List.cons_append, List.nil_append] at H4
  simp only at hk hbr hAr H4
  have hN := New.refl hNS.sat
  have hsz := hNS.mod.size
  refine wpIn_seq ?_
  refine w_reg ?_
  refine wl1 H4 (r_lss rfl rfl) rfl rfl rfl rfl fun a5 H5 => ?_
  clear H4 a4
  refine wl_end ?_
  refine th_n ?_
  refine wpIn_seq ?_
  first | refine w_if H5 rfl (fun hc8 => ?_) (fun hc8 => ?_) | refine w_cond H5 rfl (fun hc8 => ?_) (fun hc8 => ?_)
  ·
    try simp only [decide_eq_true_eq, decide_eq_false_iff_not, Bool.or_eq_true, Bool.and_eq_true, Bool.or_eq_false_iff, Bool.and_eq_false_iff, Bool.not_eq_true', Bool.not_eq_false', Int.not_lt, Int.not_le, ne_eq, Decidable.not_not] at hc8
    obtain ⟨bA, oA, rfl⟩ := hW.form (by omega)
    have hkw : k < ws.length := by omega
    have hxl : (xs ++ wsB (ws.take k)).length ≤ 1048576 := by simp only [List.length_append, wsB_length, List.length_take]; omega
    refine wpIn_skip ?_
    refine th_n ?_
    refine wpIn_seq ?_
    refine wpIn_block ?_
    refine wpIn_seq ?_
    refine w_reg ?_
    refine wl1 H5 (r_idx Try.underlying68 sz32 rfl rfl (i := k) rfl (by omega)) rfl rfl rfl rfl fun a6 H6 => ?_
    clear H5 a5
    refine wl1 H6 (r_load sc32 rfl (hN.sat.cell (hW.num (j := k) (by omega)).1)) rfl rfl rfl rfl fun a7 H7 => ?_
    clear H6 a6
    refine wl1 H7 (r_assign rfl) rfl rfl rfl rfl fun a8 H8 => ?_
    clear H7 a7
    refine wl_end ?_
    refine th_n ?_
    refine w_reg ?_
    refine wl1 H8 (r_load sc22 rfl (hbr.cell rfl)) rfl rfl rfl rfl fun a9 H9 => ?_
    clear H8 a8
    refine wl1 H9 (r_move rfl) rfl rfl rfl rfl fun a10 H10 => ?_
    clear H9 a9
    refine wlc  H10 rfl rfl hb36 rfl (jwith (n := ws[k]) hN.sat (by omega) hAr (hW.num (j := k) (by omega)).2 hxl) fun v w2 hR a11 H11 => ?_
    clear H10 a10
    obtain ⟨hO1, hK1, hS1⟩ := hR
    refine s_storeS H11 sz22 (Apx.one (.inl hO1)) rfl rfl hS1 (hK1.box hbr hlt) (by simp) fun w9 hS9 hb9 he9 H12 => ?_
    clear H11
    have hb2 : Box J w9 bo [v] 22 := hb9
    have hA2 : Apx (kInt .u8) J w9 B 5 v (xs ++ wsB (ws.take (k + 1))) := by rw [he9, wsB_take (by omega), ← List.append_assoc]; exact .inl (hO1.other hlt _)
    have hNS2 : NewS (rowS J B bo) J w J w9 := hNS.trans ⟨Im.le.refl _, hS9, by rw [he9]; exact (Mod.keep hK1 (fun k _ h1 h2 => .inr ⟨h1, h2⟩)).setB (.inl (.inl rfl)) _ _, fun _ _ => rfl⟩
    clear he9 hb9
    refine wl_end ?_
    refine bl_n ?_
    refine th_n ?_
    refine w_reg ?_
    first | refine wl1 H12 (r_addk rfl rfl (by simp only [InK]; omega)) rfl rfl rfl rfl fun a12 H13 => ?_ | refine wl1 H12 (r_add rfl rfl) rfl rfl rfl rfl fun a12 H13 => ?_
    clear H12 a11
    refine wl1 H13 (r_move rfl) rfl rfl rfl rfl fun a13 H14 => ?_
    clear H13 a12
    refine wl_end ?_
    exact th_n ⟨(k + 1, v), (by show ws.length - (k + 1) < ws.length - k; omega), H14.sub ⟨rfl, rfl, rfl, rfl, trivial⟩, by show k + 1 ≤ ws.length; omega, hNS2, hb2, hA2⟩
  ·
    try simp only [decide_eq_true_eq, decide_eq_false_iff_not, Bool.or_eq_true, Bool.and_eq_true, Bool.or_eq_false_iff, Bool.and_eq_false_iff, Bool.not_eq_true', Bool.not_eq_false', Int.not_lt, Int.not_le, ne_eq, Decidable.not_not] at hc8
    refine wpIn_exit ?_
    refine th_x ?_
    refine th_x ?_
    refine bl_hit ?_
    refine fin_n H5 (res0 rfl) ?_
    exact ⟨rfl, u, hbr, by rw [show k = ws.length by omega, List.take_length] at hAr; exact hAr, hNS⟩
end Go.Proofs.Yteinlgobadlgnaa
