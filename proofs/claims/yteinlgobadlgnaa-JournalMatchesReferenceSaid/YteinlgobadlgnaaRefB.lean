/- The reference of the journal: records as bytes. -/
import Derived.Test.YteinlgobadlgnaaRefA
set_option linter.unusedVariables false
set_option linter.unusedSimpArgs false
namespace Go.Proofs.Yteinlgobadlgnaa
open Go.RowKit


theorem wordAt_drop (l : List Int) (a i : Nat) : wordAt (l.drop a) i = wordAt l (a + i) := by unfold wordAt; rw [List.drop_drop]
noncomputable def encK (key : Int) (rec : List Int) (k : Nat) : List Int := wsB (headW key rec) ++ wsB ((rec.map IntKind.u64.wrap).take k)
theorem encK_zero (key : Int) (rec : List Int) : encK key rec 0 = [] ++ wbytes (rec.length : Int) ++ wbytes (dtag key [(rec.length : Int)]) := by simp [encK, wsB, headW]
theorem encK_succ (key : Int) (rec : List Int) (k : Nat) (h : k < rec.length) : encK key rec k ++ wbytes (IntKind.u64.wrap rec[k]) = encK key rec (k + 1) := by
  unfold encK
  rw [wsB_take (by simpa using h), ← List.append_assoc]; simp
theorem encK_full (key : Int) (rec : List Int) : encK key rec rec.length ++ wbytes (dtag key rec) = encB key rec := by
  unfold encK encB
  rw [List.take_of_length_le (by simp)]
  simp [wsB]
theorem encK_length {key : Int} {rec : List Int} {k : Nat} (h : k ≤ rec.length) : (encK key rec k).length = 16 + 8 * k := by
  simp [encK, wsB_length, headW]; omega

set_option maxRecDepth 100000 in
set_option maxHeartbeats 400000 in
theorem renc {A : Option Addr} {c : Nat} {rec : List Int} {key : Int} {I : Im} {w : World} (hS : Sat I w) (hA : Els (kInt .i64) I A rec) (hl : rec.length ≤ 100000) :
    Ret Try.prog 28 [.int .u64 key, .slice A rec.length c] w (Fresh (kInt .u8) I w (encB key rec)) := by
  refine ret_of (N := 37) Try.func28 rfl rfl rfl fun a0 H0 => ?_
  have hN := New.refl hS
  simp only [argsEnv, Nat.zero_add, Nat.reduceAdd] at H0
  refine wpIn_seq ?_
  refine w_reg ?_
  refine wl1 H0 (r_assign rfl) rfl rfl rfl rfl fun a1 H1 => ?_
  clear H0 a0
  refine wl_end ?_
  refine th_n ?_
  refine wpIn_seq ?_
  refine w_reg ?_
  refine s_lit1 (cs := []) H1 Try.underlying22 sz5 zv5 rfl rfl rfl (by simp [Value.oneCell']) rfl hN fun w1 l7 K1 hKl7 hlel7 hN nw1 hgel7 a2 H2 => ?_
  clear H1 a1
  replace hA := hA.up nw1.le
  refine wl1 H2 (r_move rfl) rfl rfl rfl rfl fun a3 H3 => ?_
  clear H2 a2
  refine wl1 H3 (r_len Try.underlying29 rfl) rfl rfl rfl rfl fun a4 H4 => ?_
  clear H3 a3
  first | refine wl1 H4 (r_convk Try.underlying3 Try.underlying32 rfl (by simp only [InK]; omega)) rfl rfl rfl rfl fun a5 H5 => ?_ | refine wl1 H4 (r_conv Try.underlying3 Try.underlying32 rfl) rfl rfl rfl rfl fun a5 H5 => ?_
  clear H4 a4
  refine wlc  H5 rfl rfl hb37 rfl (rwith (xs := []) hN.sat (Els.nil _ _ _) (by simp only [InK]; omega) (by simp)) fun v w2 hR a6 H6 => ?_
  clear H5 a5
  obtain ⟨J2, nw2, ⟨A1, c1, rfl, hc1, hE1⟩⟩ := hR
  replace hA := hA.up nw2.le
  have hN := hN.trans nw2
  refine wl1 H6 (r_assign rfl) rfl rfl rfl rfl fun a7 H7 => ?_
  clear H6 a6
  refine wl_end ?_
  refine th_n ?_
  refine wpIn_seq ?_
  refine w_reg ?_
  refine wl1 H7 (r_move rfl) rfl rfl rfl rfl fun a8 H8 => ?_
  clear H7 a7
  refine wl1 H8 (r_move rfl) rfl rfl rfl rfl fun a9 H9 => ?_
  clear H8 a8
  refine wl1 H9 (r_move rfl) rfl rfl rfl rfl fun a10 H10 => ?_
  clear H9 a9
  refine wl1 H10 (r_len Try.underlying29 rfl) rfl rfl rfl rfl fun a11 H11 => ?_
  clear H10 a10
  refine s_lit1 (cs := [_]) H11 Try.underlying29 sz3 zv3 rfl rfl rfl (by simp [Value.oneCell']) rfl hN fun w3 l16 K3 hKl16 hlel16 hN nw3 hgel16 a12 H12 => ?_
  clear H11 a11
  replace hA := hA.up nw3.le
  replace hE1 := hE1.up nw3.le
  have hE16 : Els (kInt .i64) K3 (some ⟨l16, 0, none⟩) [(rec.length : Int)] := Els.nums hKl16 (by simp) (by simp only [List.mem_singleton, InK]; rintro x rfl; omega)
  refine wlc  H12 rfl rfl hb34 rfl (rtag hN.sat hE16 rfl) fun v w4 hR a13 H13 => ?_
  clear H12 a12
  obtain ⟨rfl, gw4⟩ := hR
  have hN := hN.ofGr gw4
  refine wlc  H13 rfl rfl hb37 rfl (rwith hN.sat hE1 (dtag_inK _ _) (by simp [wbytes_length])) fun v w5 hR a14 H14 => ?_
  clear H13 a13
  obtain ⟨J5, nw5, ⟨A2, c2, rfl, hc2, hE2⟩⟩ := hR
  replace hA := hA.up nw5.le
  replace hE1 := hE1.up nw5.le
  have hN := hN.trans nw5
  rw [← encK_zero] at hE2 hc2 H14
  refine wl1 H14 (r_assign rfl) rfl rfl rfl rfl fun a15 H15 => ?_
  clear H14 a14
  refine wl_end ?_
  refine th_n ?_
  refine wpIn_seq ?_
  refine wpIn_seq ?_
  refine w_reg ?_
  refine wl1 H15 (r_assign rfl) rfl rfl rfl rfl fun a16 H16 => ?_
  clear H15 a15
  refine wl_end ?_
  refine th_n ?_
  refine wpIn_block ?_
  refine w_loop (ι := (Nat × Option Addr × Nat) × Im) (fun xJ => (fun x => [(6, .int .i64 (x.1 : Int)), (5, .slice x.2.1 (encK key rec x.1).length x.2.2)]) xJ.1) (fun xJ W => Im.le J5 xJ.2 ∧ New I w xJ.2 W ∧ (fun x (J : Im) => x.1 ≤ rec.length ∧ (encK key rec x.1).length ≤ x.2.2 ∧ Els (kInt .u8) J x.2.1 (encK key rec x.1)) xJ.1 xJ.2) (fun xJ => (fun x => rec.length - x.1) xJ.1) (l0 := [(0, _), (1, _), (4, _)]) ((0, A2, c2), J5) H16 ⟨rfl, rfl, rfl, rfl, rfl, trivial⟩ ⟨Im.le.refl _, hN, by show 0 ≤ rec.length; omega, hc2, hE2⟩ ?_
  rintro ⟨⟨k, A3, c3⟩, J6⟩ a17 w6 H17 ⟨hleJ1, hN, hk, hc3, hE3⟩
  clear H16 a16
  simp only [List.cons_append, List.nil_append] at H17
  try dsimp only at hleJ1
  try dsimp only at hN
  replace hA := hA.up hleJ1
  replace hE1 := hE1.up hleJ1
  simp only at hk hc3 hE3 H17
  try dsimp only at hE3
  try dsimp only at hc3
  try dsimp only at hk
  refine wpIn_seq ?_
  refine wpIn_seq ?_
  refine w_reg ?_
  refine wl1 H17 (r_move rfl) rfl rfl rfl rfl fun a18 H18 => ?_
  clear H17 a17
  refine wl1 H18 (r_move rfl) rfl rfl rfl rfl fun a19 H19 => ?_
  clear H18 a18
  refine wl1 H19 (r_len Try.underlying29 rfl) rfl rfl rfl rfl fun a20 H20 => ?_
  clear H19 a19
  refine wl1 H20 (r_lss rfl rfl) rfl rfl rfl rfl fun a21 H21 => ?_
  clear H20 a20
  refine wl_end ?_
  refine th_n ?_
  first | refine w_if H21 rfl (fun hc22 => ?_) (fun hc22 => ?_) | refine w_cond H21 rfl (fun hc22 => ?_) (fun hc22 => ?_)
  ·
    try simp only [decide_eq_true_eq, decide_eq_false_iff_not, Bool.or_eq_true, Bool.and_eq_true, Bool.or_eq_false_iff, Bool.and_eq_false_iff, Bool.not_eq_true', Bool.not_eq_false', Int.not_lt, Int.not_le, ne_eq, Decidable.not_not] at hc22
    obtain ⟨bA, oA, rfl⟩ := hA.form (by omega)
    have hkw : k < rec.length := by omega
    refine wpIn_skip ?_
    refine th_n ?_
    refine wpIn_seq ?_
    refine wpIn_block ?_
    refine w_reg ?_
    refine wl1 H21 (r_move rfl) rfl rfl rfl rfl fun a22 H22 => ?_
    clear H21 a21
    refine wl1 H22 (r_move rfl) rfl rfl rfl rfl fun a23 H23 => ?_
    clear H22 a22
    refine wl1 H23 (r_move rfl) rfl rfl rfl rfl fun a24 H24 => ?_
    clear H23 a23
    refine wl1 H24 (r_idx Try.underlying29 sz3 rfl rfl (i := k) rfl (by omega)) rfl rfl rfl rfl fun a25 H25 => ?_
    clear H24 a24
    refine wl1 H25 (r_load sc3 rfl (hN.sat.cell (hA.num (j := k) (by omega)).1)) rfl rfl rfl rfl fun a26 H26 => ?_
    clear H25 a25
    refine wl1 H26 (r_conv Try.underlying3 Try.underlying32 rfl) rfl rfl rfl rfl fun a27 H27 => ?_
    clear H26 a26
    refine wlc  H27 rfl rfl hb37 rfl (rwith hN.sat hE3 (inK_wrap _ _) (by rw [encK_length (by omega)]; omega)) fun v w7 hR a28 H28 => ?_
    clear H27 a27
    obtain ⟨J7, nw7, ⟨A4, c4, rfl, hc4, hE4⟩⟩ := hR
    replace hA := hA.up nw7.le
    replace hE1 := hE1.up nw7.le
    replace hE3 := hE3.up nw7.le
    replace hleJ1 := hleJ1.trans nw7.le
    have hN := hN.trans nw7
    rw [encK_succ _ _ _ hkw] at hE4 hc4 H28
    refine wl1 H28 (r_assign rfl) rfl rfl rfl rfl fun a29 H29 => ?_
    clear H28 a28
    refine wl_end ?_
    refine bl_n ?_
    refine th_n ?_
    refine w_reg ?_
    refine wl1 H29 (r_move rfl) rfl rfl rfl rfl fun a30 H30 => ?_
    clear H29 a29
    first | refine wl1 H30 (r_addk rfl rfl (by simp only [InK]; omega)) rfl rfl rfl rfl fun a31 H31 => ?_ | refine wl1 H30 (r_add rfl rfl) rfl rfl rfl rfl fun a31 H31 => ?_
    clear H30 a30
    refine wl1 H31 (r_assign rfl) rfl rfl rfl rfl fun a32 H32 => ?_
    clear H31 a31
    refine wl_end ?_
    exact th_n ⟨((k + 1, A4, c4), J7), (by show rec.length - (k + 1) < rec.length - k; omega), H32.sub ⟨rfl, rfl, rfl, rfl, rfl, trivial⟩, hleJ1, hN, by show k + 1 ≤ rec.length; omega, hc4, hE4⟩
  ·
    try simp only [decide_eq_true_eq, decide_eq_false_iff_not, Bool.or_eq_true, Bool.and_eq_true, Bool.or_eq_false_iff, Bool.and_eq_false_iff, Bool.not_eq_true', Bool.not_eq_false', Int.not_lt, Int.not_le, ne_eq, Decidable.not_not] at hc22
    refine wpIn_exit ?_
    refine th_x ?_
    refine th_x ?_
    refine bl_hit ?_
    refine th_n ?_
    refine wpIn_seq ?_
    refine w_reg ?_
    refine wl1 H21 (r_move rfl) rfl rfl rfl rfl fun a22 H33 => ?_
    clear H21 a21
    refine wl1 H33 (r_move rfl) rfl rfl rfl rfl fun a23 H34 => ?_
    clear H33 a22
    refine wl1 H34 (r_move rfl) rfl rfl rfl rfl fun a24 H35 => ?_
    clear H34 a23
    refine wlc  H35 rfl rfl hb34 rfl (rtag hN.sat hA rfl) fun v w8 hR a25 H36 => ?_
    clear H35 a24
    obtain ⟨rfl, gw8⟩ := hR
    have hN := hN.ofGr gw8
    refine wlc  H36 rfl rfl hb37 rfl (rwith hN.sat hE3 (dtag_inK _ _) (by rw [encK_length (by omega)]; omega)) fun v w9 hR a26 H37 => ?_
    clear H36 a25
    obtain ⟨J9, nw9, ⟨A5, c5, rfl, hc5, hE5⟩⟩ := hR
    replace hA := hA.up nw9.le
    replace hE1 := hE1.up nw9.le
    replace hE3 := hE3.up nw9.le
    replace hleJ1 := hleJ1.trans nw9.le
    have hN := hN.trans nw9
    rw [show k = rec.length by omega, encK_full] at hE5 hc5 H37
    refine wl1 H37 (r_assign rfl) rfl rfl rfl rfl fun a27 H38 => ?_
    clear H37 a26
    refine wl_end ?_
    refine th_n ?_
    refine wpIn_ret ?_
    refine fin_r H38 (res1 rfl H38 rfl) ?_
    exact ⟨J9, hN, _, _, rfl, hc5, hE5⟩
end Go.Proofs.Yteinlgobadlgnaa
