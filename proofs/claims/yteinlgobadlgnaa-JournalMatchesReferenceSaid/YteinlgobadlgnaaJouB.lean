/- Bytes of words. -/
import Derived.Test.YteinlgobadlgnaaJouA
import Derived.Test.YteinlgobadlgnaaRange
set_option linter.unusedVariables false
set_option linter.unusedSimpArgs false
namespace Go.Proofs.Yteinlgobadlgnaa
open Go.RowKit


theorem OwnK.ints {q : IntKind} {J K : Im} {w : World} {B : Nat} {e : TypeId} {v : Value} {xs : List Int} (h : OwnK (kInt q) K w B e v xs) (hle : Im.le J K) : OwnK (kInt q) J w B e v xs := by
  obtain ⟨cs, h1, vss, h2, h3, h4⟩ := h.row
  refine ⟨⟨cs, h1, vss, h2, h3, h4⟩, fun g hg => ?_⟩
  have := h.im g hg
  cases hj : J g with
  | none => rfl
  | some o => rw [hle g o hj] at this; cases this
theorem Keep.back {J K : Im} {B : Nat} {w w1 w2 : World} (hg : Gr w w1) (hle : Im.le J K) (k : Keep K B w1 w2) : Keep J B w w2 :=
  (Keep.ofGr hg).trans ⟨k.os, k.tape, k.output, k.size, fun i hi hc => k.block i hi (hc.imp id (fun h => by
    cases hj : J i with
    | none => exact absurd hj h
    | some o => rw [hle i o hj]; simp))⟩
theorem wbytes_take (n : Int) (k : Nat) (hk : k < 8) : (wbytes n).take (k + 1) = (wbytes n).take k ++ [byteAt n k] := by
  rw [List.take_succ_eq_append_getElem (by rw [wbytes_length]; exact hk)]
  simp [wbytes]
theorem byte_conv (n : Int) (h : InK .u64 n) (k : Nat) (hk : k < 8) : IntKind.u8.wrap (n.fdiv (2 ^ min (8 * (k : Int)).toNat IntKind.u64.bits)) = byteAt n k := by
  have e1 : min (8 * (k : Int)).toNat IntKind.u64.bits = 8 * k := by simp only [IntKind.bits]; omega
  have hp : (0 : Int) ≤ 2 ^ (8 * k) := Int.le_of_lt (Int.pow_pos (by omega))
  rw [e1, Int.fdiv_eq_ediv_of_nonneg _ hp]
  simp only [IntKind.wrap, IntKind.bits, IntKind.signed, byteAt]
  simp

set_option maxRecDepth 100000 in
set_option maxHeartbeats 400000 in
theorem jwith {v : Value} {xs : List Int} {n : Int} {B : Nat} {J : Im} {w : World} (hS : Sat J w) (hB : B ≤ w.heap.size) (hA : Apx (kInt .u8) J w B 5 v xs) (hn : InK .u64 n) (hl : xs.length ≤ 1048576) :
    Ret Try.prog 36 [v, .int .u64 n] w (fun v' w' => OwnK (kInt .u8) J w' B 5 v' (xs ++ wbytes n) ∧ Keep J B w w' ∧ Sat J w') := by
  refine ret_of (N := 19) Try.func36 rfl rfl rfl fun a0 H0 => ?_
  have hN := New.refl hS
  simp only [argsEnv, Nat.zero_add, Nat.reduceAdd] at H0
  refine wpIn_seq ?_
  refine w_reg ?_
  refine wl1 H0 (r_assign rfl) rfl rfl rfl rfl fun a1 H1 => ?_
  clear H0 a0
  refine wl_end ?_
  refine th_n ?_
  refine wpIn_seq ?_
  refine wpIn_seq ?_
  refine w_reg ?_
  refine wl1 H1 (r_move rfl) rfl rfl rfl rfl fun a2 H2 => ?_
  clear H1 a1
  refine wl_end ?_
  refine th_n ?_
  refine wpIn_block ?_
  refine w_loop (ι := Nat × Value) (fun x => [(6, .int .i64 (x.1 : Int)), (0, x.2)]) (fun x W => (x.1 ≤ 8 ∧ Sat J W ∧ Keep J B w W ∧ Apx (kInt .u8) J W B 5 x.2 (xs ++ (wbytes n).take x.1) ∧ (0 < x.1 → OwnK (kInt .u8) J W B 5 x.2 (xs ++ (wbytes n).take x.1)))) (fun x => 8 - x.1) (l0 := [(1, _), (4, _)]) (0, v) H2 ⟨rfl, rfl, rfl, rfl, trivial⟩ ⟨by omega, hS, Keep.ofGr (Gr.refl _), by simpa using hA, fun h => absurd h (Nat.lt_irrefl 0)⟩ ?_
  rintro ⟨k, u⟩ a3 w1 H3 ⟨hk, hSr, hKr, hAr, hOr⟩
  clear H2 a2
  simp only [List.cons_append, List.nil_append] at H3
  simp only at hk hAr hOr H3
  have hN := New.refl hSr
  have hbl : (xs ++ (wbytes n).take k).length ≤ 1048584 := by simp [wbytes_length]; omega
  refine wpIn_seq ?_
  refine w_reg ?_
  refine wl1 H3 (r_lss rfl rfl) rfl rfl rfl rfl fun a4 H4 => ?_
  clear H3 a3
  refine wl_end ?_
  refine th_n ?_
  refine wpIn_seq ?_
  first | refine w_if H4 rfl (fun hc7 => ?_) (fun hc7 => ?_) | refine w_cond H4 rfl (fun hc7 => ?_) (fun hc7 => ?_)
  ·
    try simp only [decide_eq_true_eq, decide_eq_false_iff_not, Bool.or_eq_true, Bool.and_eq_true, Bool.or_eq_false_iff, Bool.and_eq_false_iff, Bool.not_eq_true', Bool.not_eq_false', Int.not_lt, Int.not_le, ne_eq, Decidable.not_not] at hc7
    refine wpIn_skip ?_
    refine th_n ?_
    refine wpIn_seq ?_
    refine wpIn_block ?_
    refine wpIn_seq ?_
    refine w_reg ?_
    refine wl1 H4 (r_move rfl) rfl rfl rfl rfl fun a5 H5 => ?_
    clear H4 a4
    refine wl1 H5 (r_assign rfl) rfl rfl rfl rfl fun a6 H6 => ?_
    clear H5 a5
    refine wl_end ?_
    refine th_n ?_
    refine w_reg ?_
    refine wl1 H6 (r_move rfl) rfl rfl rfl rfl fun a7 H7 => ?_
    clear H6 a6
    refine wl1 H7 (r_move rfl) rfl rfl rfl rfl fun a8 H8 => ?_
    clear H7 a7
    refine wl1 H8 (r_move rfl) rfl rfl rfl rfl fun a9 H9 => ?_
    clear H8 a8
    first | refine wl1 H9 (r_mulk rfl rfl (by simp only [InK]; omega)) rfl rfl rfl rfl fun a10 H10 => ?_ | refine wl1 H9 (r_mul rfl rfl) rfl rfl rfl rfl fun a10 H10 => ?_
    clear H9 a9
    refine wl1 H10 (r_shr rfl rfl (by omega)) rfl rfl rfl rfl fun a11 H11 => ?_
    clear H10 a10
    refine wl1 H11 (r_conv Try.underlying32 Try.underlying5 rfl) rfl rfl rfl rfl fun a12 H12 => ?_
    clear H11 a11
    rw [byte_conv n hn k (by omega)] at H12
    refine s_lit1 (cs := [_]) H12 Try.underlying22 sz5 zv5 rfl rfl rfl (by simp [Value.oneCell']) rfl hN fun w2 l15 K2 hKl15 hlel15 hN nw2 hgel15 a13 H13 => ?_
    clear H12 a12
    have hE : Els (kInt .u8) K2 (some ⟨l15, 0, none⟩) [byteAt n k] := Els.nums hKl15 (by simp) (by simp only [List.mem_singleton, InK]; rintro x rfl; unfold byteAt; omega)
    replace hAr := hAr.next nw2
    refine s_appS (d := kInt .u8) (ys := [byteAt n k]) H13 rfl rfl Try.underlying22 nf5 rfl (by decide) (by decide) rfl hN.sat hAr hE rfl (by have := hN.gr.size; have := hKr.size; omega) (by simp only [Nat.mul_one]; omega) fun vB wB hAB hOB hKB hSB a14 H14 => ?_
    clear H13 a13
    have hK5 := hKr.trans (Keep.back nw2.gr nw2.le hKB)
    have hO5 := (hOB (by decide)).ints nw2.le
    have hS5 := hK5.sat hS
    have hT : xs ++ (wbytes n).take (k + 1) = xs ++ (wbytes n).take k ++ [byteAt n k] := by rw [wbytes_take n k (by omega), List.append_assoc]
    refine wl1 H14 (r_assign rfl) rfl rfl rfl rfl fun a15 H15 => ?_
    clear H14 a14
    refine wl_end ?_
    refine bl_n ?_
    refine th_n ?_
    refine w_reg ?_
    first | refine wl1 H15 (r_addk rfl rfl (by simp only [InK]; omega)) rfl rfl rfl rfl fun a16 H16 => ?_ | refine wl1 H15 (r_add rfl rfl) rfl rfl rfl rfl fun a16 H16 => ?_
    clear H15 a15
    refine wl1 H16 (r_move rfl) rfl rfl rfl rfl fun a17 H17 => ?_
    clear H16 a16
    refine wl_end ?_
    exact th_n ⟨(k + 1, vB), (by show 8 - (k + 1) < 8 - k; omega), H17.sub ⟨rfl, rfl, rfl, rfl, trivial⟩, by show k + 1 ≤ 8; omega, hS5, hK5, by rw [hT]; exact .inl hO5, fun _ => by rw [hT]; exact hO5⟩
  ·
    try simp only [decide_eq_true_eq, decide_eq_false_iff_not, Bool.or_eq_true, Bool.and_eq_true, Bool.or_eq_false_iff, Bool.and_eq_false_iff, Bool.not_eq_true', Bool.not_eq_false', Int.not_lt, Int.not_le, ne_eq, Decidable.not_not] at hc7
    refine wpIn_exit ?_
    refine th_x ?_
    refine th_x ?_
    refine bl_hit ?_
    refine th_n ?_
    refine wpIn_seq ?_
    refine w_reg ?_
    refine wl1 H4 (r_move rfl) rfl rfl rfl rfl fun a5 H18 => ?_
    clear H4 a4
    refine wl1 H18 (r_assign rfl) rfl rfl rfl rfl fun a6 H19 => ?_
    clear H18 a5
    refine wl_end ?_
    refine th_n ?_
    refine wpIn_ret ?_
    refine fin_r H19 (res1 rfl H19 rfl) ?_
    exact ⟨by have := hOr (by omega); rw [show k = 8 by omega, List.take_of_length_le (by simp [wbytes_length])] at this; exact this, hKr, hSr⟩
end Go.Proofs.Yteinlgobadlgnaa
