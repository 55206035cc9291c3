/- Words of journals. -/
import Derived.Test.YteinlgobadlgnaaTy
import Derived.Test.YteinlgobadlgnaaJouPure
set_option linter.unusedVariables false
set_option linter.unusedSimpArgs false
namespace Go.Proofs.Yteinlgobadlgnaa
open Go.RowKit


/-- One more byte in front. -/
theorem leSum_front {l : List Int} (hB : isB l) {at_ k : Nat} (h : at_ + 8 ≤ l.length) (hk : k < 8) : ibits .or .u64 (IntKind.u64.wrap (leSum ((l.drop (at_ + (8 - k))).take k) * 2 ^ min (8 : Int).toNat 64)) l[at_ + (7 - k)] = leSum ((l.drop (at_ + (8 - (k + 1)))).take (k + 1)) := by
  have hb := hB l[at_ + (7 - k)] (List.getElem_mem _)
  have hr := leSum_range _ (isB_take (isB_drop hB (at_ + (8 - k))) k)
  have hlen : ((l.drop (at_ + (8 - k))).take k).length = k := by simp; omega
  rw [hlen, pow_256] at hr
  have e0 : (l.drop (at_ + (8 - (k + 1)))).take (k + 1) = l[at_ + (7 - k)] :: (l.drop (at_ + (8 - k))).take k := by
    rw [show at_ + (8 - (k + 1)) = at_ + (7 - k) by omega, List.drop_eq_getElem_cons (by omega), List.take_succ_cons, show at_ + (7 - k) + 1 = at_ + (8 - k) by omega]
  rw [e0, leSum]
  have e1 : (2 : Int) ^ min (8 : Int).toNat 64 = 2 ^ 8 := rfl
  have hp : (2 : Int) ^ (8 * k) ≤ 72057594037927936 := by
    have := pow2_mono (show 8 * k ≤ 56 by omega)
    have h3 : (2 : Int) ^ 56 = 72057594037927936 := rfl
    omega
  rw [e1]
  generalize hX : leSum ((l.drop (at_ + (8 - k))).take k) = X at *
  have hw : IntKind.u64.wrap (X * 2 ^ 8) = X * 2 ^ 8 := InK.wrap (q := .u64) (by simp only [InK]; omega)
  rw [hw]
  have := ibits_or (a := l[at_ + (7 - k)]) (b := X) (i := 8) hb.1 (by have : (2 : Int) ^ 8 = 256 := rfl; omega) hr.1 (by omega)
  have hc : ibits .or .u64 (X * 2 ^ 8) l[at_ + (7 - k)] = ibits .or .u64 l[at_ + (7 - k)] (X * 2 ^ 8) := by
    show IntKind.u64.wrap ((BitVec.ofInt 64 _ ||| BitVec.ofInt 64 _).toNat : Int) = IntKind.u64.wrap ((BitVec.ofInt 64 _ ||| BitVec.ofInt 64 _).toNat : Int)
    rw [BitVec.or_comm]
  rw [hc, this]; omega

set_option maxRecDepth 100000 in
set_option maxHeartbeats 400000 in
theorem jword {A : Option Addr} {l : List Int} {c at_ : Nat} {I : Im} {w : World} (hS : Sat I w) (hA : Els (kInt .u8) I A l) (hat : at_ + 8 ≤ l.length) :
    Ret Try.prog 41 [.slice A l.length c, .int .i64 (at_ : Int)] w (fun v w' => v = .int .u64 (wordAt l at_) ∧ Gr w w') := by
  have hl := hA.1
  have hIB : isB l := hA.inK
  obtain ⟨bA, oA, rfl⟩ := hA.form (by omega)
  refine ret_of (N := 24) Try.func41 rfl rfl rfl fun a0 H0 => ?_
  have hN := New.refl hS
  simp only [argsEnv, Nat.zero_add, Nat.reduceAdd] at H0
  refine wpIn_seq ?_
  refine w_reg ?_
  refine wl1 H0 (r_assign rfl) rfl rfl rfl rfl fun a1 H1 => ?_
  clear H0 a0
  refine wl_end ?_
  refine th_n ?_
  refine wpIn_seq ?_
  refine w_reg ?_
  refine wl1 H1 (r_assign rfl) rfl rfl rfl rfl fun a2 H2 => ?_
  clear H1 a1
  refine wl_end ?_
  refine th_n ?_
  refine wpIn_seq ?_
  refine wpIn_seq ?_
  refine w_reg ?_
  refine wl1 H2 (r_move rfl) rfl rfl rfl rfl fun a3 H3 => ?_
  clear H2 a2
  refine wl_end ?_
  refine th_n ?_
  refine wpIn_block ?_
  refine w_loop (ι := Nat) (fun k => [(7, .int .i64 (k : Int)), (5, .int .u64 (leSum ((l.drop at_).take k)))]) (fun k W => New I w I W ∧ (k ≤ 8)) (fun k => 8 - k) (l0 := [(0, _), (1, _), (4, _)]) 0 H3 ⟨rfl, rfl, rfl, rfl, rfl, trivial⟩ ⟨hN, by omega⟩ ?_
  rintro k a4 w1 H4 ⟨hN, hk⟩
  clear H3 a3
  simp only [List.cons_append, List.nil_append] at H4
  refine wpIn_seq ?_
  refine w_reg ?_
  refine wl1 H4 (r_lss rfl rfl) rfl rfl rfl rfl fun a5 H5 => ?_
  clear H4 a4
  refine wl_end ?_
  refine th_n ?_
  refine wpIn_seq ?_
  first | refine w_if H5 rfl (fun hc8 => ?_) (fun hc8 => ?_) | refine w_cond H5 rfl (fun hc8 => ?_) (fun hc8 => ?_)
  ·
    try simp only [decide_eq_true_eq, decide_eq_false_iff_not, Bool.or_eq_true, Bool.and_eq_true, Bool.or_eq_false_iff, Bool.and_eq_false_iff, Bool.not_eq_true', Bool.not_eq_false', Int.not_lt, Int.not_le, ne_eq, Decidable.not_not] at hc8
    refine wpIn_skip ?_
    refine th_n ?_
    refine wpIn_seq ?_
    refine wpIn_block ?_
    refine wpIn_seq ?_
    refine w_reg ?_
    refine wl1 H5 (r_move rfl) rfl rfl rfl rfl fun a6 H6 => ?_
    clear H5 a5
    refine wl1 H6 (r_assign rfl) rfl rfl rfl rfl fun a7 H7 => ?_
    clear H6 a6
    refine wl_end ?_
    refine th_n ?_
    refine w_reg ?_
    refine wl1 H7 (r_move rfl) rfl rfl rfl rfl fun a8 H8 => ?_
    clear H7 a7
    refine wl1 H8 (r_move rfl) rfl rfl rfl rfl fun a9 H9 => ?_
    clear H8 a8
    refine wl1 H9 (r_move rfl) rfl rfl rfl rfl fun a10 H10 => ?_
    clear H9 a9
    refine wl1 H10 (r_move rfl) rfl rfl rfl rfl fun a11 H11 => ?_
    clear H10 a10
    first | refine wl1 H11 (r_addk rfl rfl (by simp only [InK]; omega)) rfl rfl rfl rfl fun a12 H12 => ?_ | refine wl1 H11 (r_add rfl rfl) rfl rfl rfl rfl fun a12 H12 => ?_
    clear H11 a11
    refine wl1 H12 (r_idx Try.underlying22 sz5 rfl rfl (i := at_ + k) rfl (by omega)) rfl rfl rfl rfl fun a13 H13 => ?_
    clear H12 a12
    refine wl1 H13 (r_load sc5 rfl (hN.sat.cell (hA.num (j := at_ + k) (by omega)).1)) rfl rfl rfl rfl fun a14 H14 => ?_
    clear H13 a13
    refine wl1 H14 (r_convk Try.underlying5 Try.underlying32 rfl (by have := hIB l[at_ + k] (List.getElem_mem _); simp only [InK]; omega)) rfl rfl rfl rfl fun a15 H15 => ?_
    clear H14 a14
    refine wl1 H15 (r_move rfl) rfl rfl rfl rfl fun a16 H16 => ?_
    clear H15 a15
    first | refine wl1 H16 (r_mulk rfl rfl (by simp only [InK]; omega)) rfl rfl rfl rfl fun a17 H17 => ?_ | refine wl1 H16 (r_mul rfl rfl) rfl rfl rfl rfl fun a17 H17 => ?_
    clear H16 a16
    refine wl1 H17 (r_shl rfl rfl (by omega)) rfl rfl rfl rfl fun a18 H18 => ?_
    clear H17 a17
    refine wl1 H18 (r_or rfl rfl) rfl rfl rfl rfl fun a19 H19 => ?_
    clear H18 a18
    refine wl1 H19 (r_assign rfl) rfl rfl rfl rfl fun a20 H20 => ?_
    clear H19 a19
    refine wl_end ?_
    refine bl_n ?_
    refine th_n ?_
    refine w_reg ?_
    first | refine wl1 H20 (r_addk rfl rfl (by simp only [InK]; omega)) rfl rfl rfl rfl fun a21 H21 => ?_ | refine wl1 H20 (r_add rfl rfl) rfl rfl rfl rfl fun a21 H21 => ?_
    clear H20 a20
    refine wl1 H21 (r_move rfl) rfl rfl rfl rfl fun a22 H22 => ?_
    clear H21 a21
    refine wl_end ?_
    exact th_n ⟨k + 1, (by omega), H22.sub ⟨rfl, (congrArg some (congrArg (Value.int .u64) (leSum_step hIB (by omega) (by omega)))), rfl, rfl, rfl, trivial⟩, hN, by omega⟩
  ·
    try simp only [decide_eq_true_eq, decide_eq_false_iff_not, Bool.or_eq_true, Bool.and_eq_true, Bool.or_eq_false_iff, Bool.and_eq_false_iff, Bool.not_eq_true', Bool.not_eq_false', Int.not_lt, Int.not_le, ne_eq, Decidable.not_not] at hc8
    refine wpIn_exit ?_
    refine th_x ?_
    refine th_x ?_
    refine bl_hit ?_
    refine th_n ?_
    refine wpIn_seq ?_
    refine w_reg ?_
    refine wl1 H5 (r_move rfl) rfl rfl rfl rfl fun a6 H23 => ?_
    clear H5 a5
    refine wl1 H23 (r_assign rfl) rfl rfl rfl rfl fun a7 H24 => ?_
    clear H23 a6
    refine wl_end ?_
    refine th_n ?_
    refine wpIn_ret ?_
    refine fin_r H24 (res1 rfl H24 rfl) ?_
    exact ⟨by rw [show k = 8 by omega]; rfl, hN.gr⟩
set_option maxRecDepth 100000 in
set_option maxHeartbeats 400000 in
theorem rword {A : Option Addr} {l : List Int} {c at_ : Nat} {I : Im} {w : World} (hS : Sat I w) (hA : Els (kInt .u8) I A l) (hat : at_ + 8 ≤ l.length) :
    Ret Try.prog 33 [.slice A l.length c, .int .i64 (at_ : Int)] w (fun v w' => v = .int .u64 (wordAt l at_) ∧ Gr w w') := by
  have hl := hA.1
  have hIB : isB l := hA.inK
  obtain ⟨bA, oA, rfl⟩ := hA.form (by omega)
  refine ret_of (N := 22) Try.func33 rfl rfl rfl fun a0 H0 => ?_
  have hN := New.refl hS
  simp only [argsEnv, Nat.zero_add, Nat.reduceAdd] at H0
  refine wpIn_seq ?_
  refine w_reg ?_
  refine wl1 H0 (r_assign rfl) rfl rfl rfl rfl fun a1 H1 => ?_
  clear H0 a0
  refine wl_end ?_
  refine th_n ?_
  refine wpIn_seq ?_
  refine w_reg ?_
  refine wl1 H1 (r_assign rfl) rfl rfl rfl rfl fun a2 H2 => ?_
  clear H1 a1
  refine wl_end ?_
  refine th_n ?_
  refine wpIn_seq ?_
  refine wpIn_seq ?_
  refine w_reg ?_
  refine wl1 H2 (r_assign rfl) rfl rfl rfl rfl fun a3 H3 => ?_
  clear H2 a2
  refine wl_end ?_
  refine th_n ?_
  refine wpIn_block ?_
  refine w_loop (ι := Nat) (fun k => [(6, .int .i64 (7 - (k : Int))), (5, .int .u64 (leSum ((l.drop (at_ + (8 - k))).take k)))]) (fun k W => New I w I W ∧ (k ≤ 8)) (fun k => 8 - k) (l0 := [(0, _), (1, _), (4, _)]) 0 H3 ⟨rfl, rfl, rfl, rfl, rfl, trivial⟩ ⟨hN, by omega⟩ ?_
  rintro k a4 w1 H4 ⟨hN, hk⟩
  clear H3 a3
  simp only [List.cons_append, List.nil_append] at H4
  refine wpIn_seq ?_
  refine wpIn_seq ?_
  refine w_reg ?_
  refine wl1 H4 (r_move rfl) rfl rfl rfl rfl fun a5 H5 => ?_
  clear H4 a4
  refine wl1 H5 (r_geq rfl rfl) rfl rfl rfl rfl fun a6 H6 => ?_
  clear H5 a5
  refine wl_end ?_
  refine th_n ?_
  first | refine w_if H6 rfl (fun hc8 => ?_) (fun hc8 => ?_) | refine w_cond H6 rfl (fun hc8 => ?_) (fun hc8 => ?_)
  ·
    try simp only [decide_eq_true_eq, decide_eq_false_iff_not, Bool.or_eq_true, Bool.and_eq_true, Bool.or_eq_false_iff, Bool.and_eq_false_iff, Bool.not_eq_true', Bool.not_eq_false', Int.not_lt, Int.not_le, ne_eq, Decidable.not_not] at hc8
    refine wpIn_skip ?_
    refine th_n ?_
    refine wpIn_seq ?_
    refine wpIn_block ?_
    refine w_reg ?_
    refine wl1 H6 (r_move rfl) rfl rfl rfl rfl fun a7 H7 => ?_
    clear H6 a6
    refine wl1 H7 (r_shl rfl rfl (by omega)) rfl rfl rfl rfl fun a8 H8 => ?_
    clear H7 a7
    refine wl1 H8 (r_move rfl) rfl rfl rfl rfl fun a9 H9 => ?_
    clear H8 a8
    refine wl1 H9 (r_move rfl) rfl rfl rfl rfl fun a10 H10 => ?_
    clear H9 a9
    refine wl1 H10 (r_move rfl) rfl rfl rfl rfl fun a11 H11 => ?_
    clear H10 a10
    first | refine wl1 H11 (r_addk rfl rfl (by simp only [InK]; omega)) rfl rfl rfl rfl fun a12 H12 => ?_ | refine wl1 H11 (r_add rfl rfl) rfl rfl rfl rfl fun a12 H12 => ?_
    clear H11 a11
    refine wl1 H12 (r_idx Try.underlying22 sz5 rfl rfl (i := at_ + (7 - k)) (by omega) (by omega)) rfl rfl rfl rfl fun a13 H13 => ?_
    clear H12 a12
    refine wl1 H13 (r_load sc5 rfl (hN.sat.cell (hA.num (j := at_ + (7 - k)) (by omega)).1)) rfl rfl rfl rfl fun a14 H14 => ?_
    clear H13 a13
    refine wl1 H14 (r_convk Try.underlying5 Try.underlying32 rfl (by have := hIB l[at_ + (7 - k)] (List.getElem_mem _); simp only [InK]; omega)) rfl rfl rfl rfl fun a15 H15 => ?_
    clear H14 a14
    refine wl1 H15 (r_or rfl rfl) rfl rfl rfl rfl fun a16 H16 => ?_
    clear H15 a15
    refine wl1 H16 (r_assign rfl) rfl rfl rfl rfl fun a17 H17 => ?_
    clear H16 a16
    refine wl_end ?_
    refine bl_n ?_
    refine th_n ?_
    refine w_reg ?_
    refine wl1 H17 (r_move rfl) rfl rfl rfl rfl fun a18 H18 => ?_
    clear H17 a17
    first | refine wl1 H18 (r_subk rfl rfl (by simp only [InK]; omega)) rfl rfl rfl rfl fun a19 H19 => ?_ | refine wl1 H18 (r_sub rfl rfl) rfl rfl rfl rfl fun a19 H19 => ?_
    clear H18 a18
    refine wl1 H19 (r_assign rfl) rfl rfl rfl rfl fun a20 H20 => ?_
    clear H19 a19
    refine wl_end ?_
    exact th_n ⟨k + 1, (by omega), H20.sub ⟨(congrArg some (congrArg (Value.int .i64) (by omega))), (congrArg some (congrArg (Value.int .u64) (leSum_front hIB (by omega) (by omega)))), rfl, rfl, rfl, trivial⟩, hN, by omega⟩
  ·
    try simp only [decide_eq_true_eq, decide_eq_false_iff_not, Bool.or_eq_true, Bool.and_eq_true, Bool.or_eq_false_iff, Bool.and_eq_false_iff, Bool.not_eq_true', Bool.not_eq_false', Int.not_lt, Int.not_le, ne_eq, Decidable.not_not] at hc8
    refine wpIn_exit ?_
    refine th_x ?_
    refine th_x ?_
    refine bl_hit ?_
    refine th_n ?_
    refine wpIn_seq ?_
    refine w_reg ?_
    refine wl1 H6 (r_move rfl) rfl rfl rfl rfl fun a7 H21 => ?_
    clear H6 a6
    refine wl1 H21 (r_assign rfl) rfl rfl rfl rfl fun a8 H22 => ?_
    clear H21 a7
    refine wl_end ?_
    refine th_n ?_
    refine wpIn_ret ?_
    refine fin_r H22 (res1 rfl H22 rfl) ?_
    exact ⟨by rw [show k = 8 by omega]; rfl, hN.gr⟩
end Go.Proofs.Yteinlgobadlgnaa
