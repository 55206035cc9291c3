/- What the laws of the journal call. -/
import Derived.Test.YteinlgobadlgnaaRefF
set_option linter.unusedVariables false
set_option linter.unusedSimpArgs false
namespace Go.Proofs.Yteinlgobadlgnaa
open Go.RowKit


noncomputable def jfold (rs : List (List Int)) : List Int := rs.foldl putB []
theorem jfold_take {rs : List (List Int)} {k : Nat} (h : k < rs.length) : jfold (rs.take (k + 1)) = putB (jfold (rs.take k)) rs[k] := by
  unfold jfold; rw [List.take_succ_eq_append_getElem h, List.foldl_append]; rfl
theorem putB_le (l rec : List Int) : (putB l rec).length ≤ 65536 := by
  unfold putB
  split
  · rename_i h
    unfold putErr at h
    split at h
    · cases h
    · split at h
      · cases h
      · split at h
        · cases h
        · simp only [List.length_append, encB_length]; omega
  · simp
theorem jfold_le (rs : List (List Int)) : (jfold rs).length ≤ 65536 := by
  unfold jfold
  rcases List.eq_nil_or_concat rs with rfl | ⟨a, b, rfl⟩
  · simp
  · rw [List.concat_eq_append, List.foldl_append]; exact putB_le _ _
def smallB (rs : List (List Int)) : Bool := decide (rs.length ≤ 12) && rs.all (fun r => decide (r.length ≤ 12))
noncomputable def jends (rs : List (List Int)) : List Int := (List.range rs.length).map fun i => ((jfold (rs.take (i + 1))).length : Int)
theorem jends_length (rs : List (List Int)) : (jends rs).length = rs.length := by simp [jends]
theorem jends_take {rs : List (List Int)} {k : Nat} (h : k < rs.length) : (jends rs).take (k + 1) = (jends rs).take k ++ [((jfold (rs.take (k + 1))).length : Int)] := by
  rw [List.take_succ_eq_append_getElem (by rw [jends_length]; exact h)]; simp [jends]
theorem jread' {A : Option Addr} {c : Nat} {l : List Int} {I : Im} {w : World} (hS : Sat I w) (hA : Els (kInt .u8) I A l) (hlc : l.length ≤ c) (hmax : l.length ≤ 16777216) :
    Ret Try.prog 25 [.slice A l.length c] w (fun v w' => ∃ J, New I w J w' ∧ ∃ A1 c1 A2 c2, v = .tuple #[.slice A1 (jall l 0).recs.length c1, .slice A2 (l.length - (jall l 0).off) c2, .int .i64 (if (jall l 0).off < l.length then 60 else 0)] ∧
    (jall l 0).recs.length ≤ c1 ∧ Els (kSl (kInt .i64)) J A1 (jall l 0).recs ∧ l.length - (jall l 0).off ≤ c2 ∧ Els (kInt .u8) J A2 (l.drop (jall l 0).off)) := (jread hS hA hlc hmax).mono (fun v w' ⟨J, A1, c1, A2, c2, h1, h2⟩ => ⟨J, h1, A1, c1, A2, c2, h2⟩)
theorem jput' {A R : Option Addr} {c cr : Nat} {l rec : List Int} {I : Im} {w : World} (hS : Sat I w) (hA : Els (kInt .u8) I A l) (hlc : l.length ≤ c) (hmax : l.length ≤ 16777216) (hR : Els (kInt .i64) I R rec) (hrc : rec.length ≤ cr) :
    Ret Try.prog 27 [.slice A l.length c, .slice R rec.length cr] w (fun v w' => ∃ J, New I w J w' ∧ ∃ A c, v = .tuple #[.slice A (putB l rec).length c, .int .i64 (putErr l rec)] ∧ (putB l rec).length ≤ c ∧ Els (kInt .u8) J A (putB l rec)) := (jput hS hA hlc hmax hR hrc).mono (fun v w' ⟨J, A, c, h1, h2⟩ => ⟨J, h1, A, c, h2⟩)
/-- What the law's read answers. -/
def LReadPost (I : Im) (w : World) (l : List Int) (v : Value) (w' : World) : Prop :=
  ∃ J, New I w J w' ∧ ∃ A1 c1 A2 c2, v = .agg #[.slice A1 (jall l 0).recs.length c1, .slice A2 (l.length - (jall l 0).off) c2, .int .i64 (if (jall l 0).off < l.length then 60 else 0), .int .i64 0, .int .u64 0] ∧
    (jall l 0).recs.length ≤ c1 ∧ Els (kSl (kInt .i64)) J A1 (jall l 0).recs ∧ l.length - (jall l 0).off ≤ c2 ∧ Els (kInt .u8) J A2 (l.drop (jall l 0).off)
def MadePost (I : Im) (w : World) (rs : List (List Int)) (v : Value) (w' : World) : Prop :=
  ∃ J, New I w J w' ∧ ∃ A c A2 c2, v = .tuple #[.slice A (jfold rs).length c, .slice A2 (jends rs).length c2] ∧ (jfold rs).length ≤ c ∧ Els (kInt .u8) J A (jfold rs) ∧ (jends rs).length ≤ c2 ∧ Els (kInt .i64) J A2 (jends rs)

set_option maxRecDepth 100000 in
set_option maxHeartbeats 400000 in
theorem rsmall {A : Option Addr} {c : Nat} {rs : List (List Int)} {I : Im} {w : World} (hS : Sat I w) (hA : Els (kSl (kInt .i64)) I A rs) :
    Ret Try.prog 10 [.slice A rs.length c] w (fun v w' => v = .bool (smallB rs) ∧ Gr w w') := by
  have hl9 := hA.1
  refine ret_of (N := 19) Try.func10 rfl rfl rfl fun a0 H0 => ?_
  have hN := New.refl hS
  simp only [argsEnv, Nat.zero_add, Nat.reduceAdd] at H0
  refine wpIn_seq ?_
  refine w_reg ?_
  refine wl1 H0 (r_assign rfl) rfl rfl rfl rfl fun a1 H1 => ?_
  clear H0 a0
  refine wl_end ?_
  refine th_n ?_
  refine wpIn_seq ?_
  refine wpIn_seq ?_
  refine w_reg ?_
  refine wl1 H1 (r_assign rfl) rfl rfl rfl rfl fun a2 H2 => ?_
  clear H1 a1
  refine wl_end ?_
  refine th_n ?_
  refine wpIn_block ?_
  refine w_loop (ι := Nat) (fun k => [(3, .int .i64 (k : Int))]) (fun k W => New I w I W ∧ (k ≤ rs.length ∧ (rs.take k).all (fun r => decide (r.length ≤ 12)) = true)) (fun k => rs.length - k) (l0 := [(0, _)]) 0 H2 ⟨rfl, rfl, trivial⟩ ⟨hN, Nat.zero_le _, by simp⟩ ?_
  rintro k a3 w1 H3 ⟨hN, hk, hT⟩
  clear H2 a2
  simp only [List.cons_append, List.nil_append] at H3
  refine wpIn_seq ?_
  refine wpIn_seq ?_
  refine w_reg ?_
  refine wl1 H3 (r_move rfl) rfl rfl rfl rfl fun a4 H4 => ?_
  clear H3 a3
  refine wl1 H4 (r_move rfl) rfl rfl rfl rfl fun a5 H5 => ?_
  clear H4 a4
  refine wl1 H5 (r_len Try.underlying23 rfl) rfl rfl rfl rfl fun a6 H6 => ?_
  clear H5 a5
  refine wl1 H6 (r_lss rfl rfl) rfl rfl rfl rfl fun a7 H7 => ?_
  clear H6 a6
  refine wl_end ?_
  refine th_n ?_
  first | refine w_if H7 rfl (fun hc7 => ?_) (fun hc7 => ?_) | refine w_cond H7 rfl (fun hc7 => ?_) (fun hc7 => ?_)
  ·
    try simp only [decide_eq_true_eq, decide_eq_false_iff_not, Bool.or_eq_true, Bool.and_eq_true, Bool.or_eq_false_iff, Bool.and_eq_false_iff, Bool.not_eq_true', Bool.not_eq_false', Int.not_lt, Int.not_le, ne_eq, Decidable.not_not] at hc7
    obtain ⟨bA, oA, rfl⟩ := hA.form (by omega)
    have hkl : k < rs.length := by omega
    obtain ⟨AA, cA, hcA, hlA, hEA⟩ := hA.rowAt hkl
    refine wpIn_skip ?_
    refine th_n ?_
    refine wpIn_seq ?_
    refine wpIn_block ?_
    refine wpIn_seq ?_
    refine w_reg ?_
    refine wl1 H7 (r_move rfl) rfl rfl rfl rfl fun a8 H8 => ?_
    clear H7 a7
    refine wl1 H8 (r_move rfl) rfl rfl rfl rfl fun a9 H9 => ?_
    clear H8 a8
    refine wl1 H9 (r_idx Try.underlying23 sz29 rfl rfl (i := k) rfl (by omega)) rfl rfl rfl rfl fun a10 H10 => ?_
    clear H9 a9
    refine wl1 H10 (r_load sc29 rfl (hN.sat.cell hcA)) rfl rfl rfl rfl fun a11 H11 => ?_
    clear H10 a10
    refine wl1 H11 (r_len Try.underlying29 rfl) rfl rfl rfl rfl fun a12 H12 => ?_
    clear H11 a11
    refine wl1 H12 (r_gtr rfl rfl) rfl rfl rfl rfl fun a13 H13 => ?_
    clear H12 a12
    refine wl_end ?_
    refine th_n ?_
    first | refine w_if H13 rfl (fun hc15 => ?_) (fun hc15 => ?_) | refine w_cond H13 rfl (fun hc15 => ?_) (fun hc15 => ?_)
    ·
      try simp only [decide_eq_true_eq, decide_eq_false_iff_not, Bool.or_eq_true, Bool.and_eq_true, Bool.or_eq_false_iff, Bool.and_eq_false_iff, Bool.not_eq_true', Bool.not_eq_false', Int.not_lt, Int.not_le, ne_eq, Decidable.not_not] at hc15
      refine wpIn_seq ?_
      refine w_reg ?_
      refine wl1 H13 (r_assign rfl) rfl rfl rfl rfl fun a14 H14 => ?_
      clear H13 a13
      refine wl_end ?_
      refine th_n ?_
      refine wpIn_ret ?_
      refine bl_r ?_
      refine th_r ?_
      refine th_r ?_
      refine bl_r ?_
      refine th_r ?_
      refine fin_r H14 (res1 rfl H14 rfl) ?_
      exact ⟨by rw [show smallB rs = false from by simp only [smallB, Bool.and_eq_false_iff]; right; rw [List.all_eq_false]; exact ⟨rs[k], List.getElem_mem _, by simp; omega⟩], hN.gr⟩
    ·
      try simp only [decide_eq_true_eq, decide_eq_false_iff_not, Bool.or_eq_true, Bool.and_eq_true, Bool.or_eq_false_iff, Bool.and_eq_false_iff, Bool.not_eq_true', Bool.not_eq_false', Int.not_lt, Int.not_le, ne_eq, Decidable.not_not] at hc15
      refine wpIn_skip ?_
      refine bl_n ?_
      refine th_n ?_
      refine w_reg ?_
      refine wl1 H13 (r_move rfl) rfl rfl rfl rfl fun a14 H15 => ?_
      clear H13 a13
      first | refine wl1 H15 (r_addk rfl rfl (by simp only [InK]; omega)) rfl rfl rfl rfl fun a15 H16 => ?_ | refine wl1 H15 (r_add rfl rfl) rfl rfl rfl rfl fun a15 H16 => ?_
      clear H15 a14
      refine wl1 H16 (r_assign rfl) rfl rfl rfl rfl fun a16 H17 => ?_
      clear H16 a15
      refine wl_end ?_
      exact th_n ⟨k + 1, (by omega), H17.sub ⟨rfl, rfl, trivial⟩, hN, by omega, by rw [List.take_succ_eq_append_getElem hkl, List.all_append, hT]; simp; omega⟩
  ·
    try simp only [decide_eq_true_eq, decide_eq_false_iff_not, Bool.or_eq_true, Bool.and_eq_true, Bool.or_eq_false_iff, Bool.and_eq_false_iff, Bool.not_eq_true', Bool.not_eq_false', Int.not_lt, Int.not_le, ne_eq, Decidable.not_not] at hc7
    refine wpIn_exit ?_
    refine th_x ?_
    refine th_x ?_
    refine bl_hit ?_
    refine th_n ?_
    refine wpIn_seq ?_
    refine w_reg ?_
    refine wl1 H7 (r_move rfl) rfl rfl rfl rfl fun a8 H18 => ?_
    clear H7 a7
    refine wl1 H18 (r_len Try.underlying23 rfl) rfl rfl rfl rfl fun a9 H19 => ?_
    clear H18 a8
    refine wl1 H19 (r_leq rfl rfl) rfl rfl rfl rfl fun a10 H20 => ?_
    clear H19 a9
    refine wl1 H20 (r_assign rfl) rfl rfl rfl rfl fun a11 H21 => ?_
    clear H20 a10
    refine wl_end ?_
    refine th_n ?_
    refine wpIn_ret ?_
    refine fin_r H21 (res1 rfl H21 rfl) ?_
    exact ⟨by rw [List.take_of_length_le (by omega)] at hT; unfold smallB; rw [hT, Bool.and_true]; congr 1; simp only [decide_eq_decide]; omega, hN.gr⟩
set_option maxRecDepth 100000 in
set_option maxHeartbeats 400000 in
theorem rjournal {A : Option Addr} {c : Nat} {rs : List (List Int)} {I : Im} {w : World} (hS : Sat I w) (hA : Els (kSl (kInt .i64)) I A rs) :
    Ret Try.prog 11 [.slice A rs.length c] w (Fresh (kInt .u8) I w (jfold rs)) := by
  have hl9 := hA.1
  refine ret_of (N := 20) Try.func11 rfl rfl rfl fun a0 H0 => ?_
  have hN := New.refl hS
  simp only [argsEnv, Nat.zero_add, Nat.reduceAdd] at H0
  refine wpIn_seq ?_
  refine w_reg ?_
  refine wl1 H0 (r_assign rfl) rfl rfl rfl rfl fun a1 H1 => ?_
  clear H0 a0
  refine wl_end ?_
  refine th_n ?_
  refine wpIn_seq ?_
  refine w_reg ?_
  refine s_lit1 (cs := []) H1 Try.underlying22 sz5 zv5 rfl rfl rfl (by simp [Value.oneCell']) rfl hN fun w1 l5 K1 hKl5 hlel5 hN nw1 hgel5 a2 H2 => ?_
  clear H1 a1
  replace hA := hA.up nw1.le
  refine wl1 H2 (r_assign rfl) rfl rfl rfl rfl fun a3 H3 => ?_
  clear H2 a2
  refine wl_end ?_
  refine th_n ?_
  refine wpIn_seq ?_
  refine wpIn_seq ?_
  refine w_reg ?_
  refine wl1 H3 (r_assign rfl) rfl rfl rfl rfl fun a4 H4 => ?_
  clear H3 a3
  refine wl_end ?_
  refine th_n ?_
  refine wpIn_block ?_
  refine w_loop (ι := (Nat × Option Addr × Nat) × Im) (fun xJ => (fun x => [(4, .int .i64 (x.1 : Int)), (3, .slice x.2.1 (jfold (rs.take x.1)).length x.2.2)]) xJ.1) (fun xJ W => Im.le K1 xJ.2 ∧ New I w xJ.2 W ∧ (fun x (J : Im) => x.1 ≤ rs.length ∧ (jfold (rs.take x.1)).length ≤ x.2.2 ∧ Els (kInt .u8) J x.2.1 (jfold (rs.take x.1))) xJ.1 xJ.2) (fun xJ => (fun x => rs.length - x.1) xJ.1) (l0 := [(0, _), (2, _)]) ((0, _, _), K1) H4 ⟨rfl, rfl, rfl, rfl, trivial⟩ ⟨Im.le.refl _, hN, Nat.zero_le _, Nat.le_refl _, Els.nil _ _ _⟩ ?_
  rintro ⟨⟨k, A1, c1⟩, J2⟩ a5 w2 H5 ⟨hleJ1, hN, hk, hc1, hE1⟩
  clear H4 a4
  simp only [List.cons_append, List.nil_append] at H5
  try dsimp only at hleJ1
  try dsimp only at hN
  replace hA := hA.up hleJ1
  simp only at hk hc1 hE1 H5
  try dsimp only at hE1
  try dsimp only at hc1
  try dsimp only at hk
  refine wpIn_seq ?_
  refine wpIn_seq ?_
  refine w_reg ?_
  refine wl1 H5 (r_move rfl) rfl rfl rfl rfl fun a6 H6 => ?_
  clear H5 a5
  refine wl1 H6 (r_move rfl) rfl rfl rfl rfl fun a7 H7 => ?_
  clear H6 a6
  refine wl1 H7 (r_len Try.underlying23 rfl) rfl rfl rfl rfl fun a8 H8 => ?_
  clear H7 a7
  refine wl1 H8 (r_lss rfl rfl) rfl rfl rfl rfl fun a9 H9 => ?_
  clear H8 a8
  refine wl_end ?_
  refine th_n ?_
  first | refine w_if H9 rfl (fun hc9 => ?_) (fun hc9 => ?_) | refine w_cond H9 rfl (fun hc9 => ?_) (fun hc9 => ?_)
  ·
    try simp only [decide_eq_true_eq, decide_eq_false_iff_not, Bool.or_eq_true, Bool.and_eq_true, Bool.or_eq_false_iff, Bool.and_eq_false_iff, Bool.not_eq_true', Bool.not_eq_false', Int.not_lt, Int.not_le, ne_eq, Decidable.not_not] at hc9
    obtain ⟨bA, oA, rfl⟩ := hA.form (by omega)
    have hkl : k < rs.length := by omega
    obtain ⟨AA, cA, hcA, hlA, hEA⟩ := hA.rowAt hkl
    have hjl := jfold_le (rs.take k)
    refine wpIn_skip ?_
    refine th_n ?_
    refine wpIn_seq ?_
    refine wpIn_block ?_
    refine w_reg ?_
    refine wl1 H9 (r_move rfl) rfl rfl rfl rfl fun a10 H10 => ?_
    clear H9 a9
    refine wl1 H10 (r_move rfl) rfl rfl rfl rfl fun a11 H11 => ?_
    clear H10 a10
    refine wl1 H11 (r_move rfl) rfl rfl rfl rfl fun a12 H12 => ?_
    clear H11 a11
    refine wl1 H12 (r_idx Try.underlying23 sz29 rfl rfl (i := k) rfl (by omega)) rfl rfl rfl rfl fun a13 H13 => ?_
    clear H12 a12
    refine wl1 H13 (r_load sc29 rfl (hN.sat.cell hcA)) rfl rfl rfl rfl fun a14 H14 => ?_
    clear H13 a13
    refine wlc  H14 rfl rfl hb15 rfl (rput hN.sat hE1 hc1 (by omega) hEA hlA) fun v w3 hR a15 H15 => ?_
    clear H14 a14
    obtain ⟨J3, nw3, ⟨A2, c2, rfl, hc2, hE2⟩⟩ := hR
    replace hA := hA.up nw3.le
    replace hE1 := hE1.up nw3.le
    replace hleJ1 := hleJ1.trans nw3.le
    have hN := hN.trans nw3
    rw [← jfold_take hkl] at hc2 hE2 H15
    refine wl1 H15 (r_fieldv 0 rfl rfl (by kernel_rfl)) rfl rfl rfl rfl fun a16 H16 => ?_
    clear H15 a15
    refine wl1 H16 (r_assign rfl) rfl rfl rfl rfl fun a17 H17 => ?_
    clear H16 a16
    refine wl_end ?_
    refine bl_n ?_
    refine th_n ?_
    refine w_reg ?_
    refine wl1 H17 (r_move rfl) rfl rfl rfl rfl fun a18 H18 => ?_
    clear H17 a17
    first | refine wl1 H18 (r_addk rfl rfl (by simp only [InK]; omega)) rfl rfl rfl rfl fun a19 H19 => ?_ | refine wl1 H18 (r_add rfl rfl) rfl rfl rfl rfl fun a19 H19 => ?_
    clear H18 a18
    refine wl1 H19 (r_assign rfl) rfl rfl rfl rfl fun a20 H20 => ?_
    clear H19 a19
    refine wl_end ?_
    exact th_n ⟨((k + 1, A2, c2), J3), (by show rs.length - (k + 1) < rs.length - k; omega), H20.sub ⟨rfl, rfl, rfl, rfl, trivial⟩, hleJ1, hN, by show k + 1 ≤ rs.length; omega, hc2, hE2⟩
  ·
    try simp only [decide_eq_true_eq, decide_eq_false_iff_not, Bool.or_eq_true, Bool.and_eq_true, Bool.or_eq_false_iff, Bool.and_eq_false_iff, Bool.not_eq_true', Bool.not_eq_false', Int.not_lt, Int.not_le, ne_eq, Decidable.not_not] at hc9
    refine wpIn_exit ?_
    refine th_x ?_
    refine th_x ?_
    refine bl_hit ?_
    refine th_n ?_
    refine wpIn_seq ?_
    refine w_reg ?_
    refine wl1 H9 (r_move rfl) rfl rfl rfl rfl fun a10 H21 => ?_
    clear H9 a9
    refine wl1 H21 (r_assign rfl) rfl rfl rfl rfl fun a11 H22 => ?_
    clear H21 a10
    refine wl_end ?_
    refine th_n ?_
    refine wpIn_ret ?_
    refine fin_r H22 (res1 rfl H22 rfl) ?_
    exact ⟨J2, hN, A1, c1, by rw [List.take_of_length_le (by omega)], by rw [List.take_of_length_le (by omega)] at hc1; exact hc1, by rw [List.take_of_length_le (by omega)] at hE1; exact hE1⟩
set_option maxRecDepth 100000 in
set_option maxHeartbeats 400000 in
theorem lread {A : Option Addr} {c : Nat} {l : List Int} {I : Im} {w : World} (hS : Sat I w) (hA : Els (kInt .u8) I A l) (hlc : l.length ≤ c) (hmax : l.length ≤ 16777216) :
    Ret Try.prog 12 [.slice A l.length c] w (LReadPost I w l) := by
  refine ret_of (N := 16) Try.func12 rfl rfl rfl fun a0 H0 => ?_
  have hN := New.refl hS
  simp only [argsEnv, Nat.zero_add, Nat.reduceAdd] at H0
  refine wpIn_seq ?_
  refine w_reg ?_
  refine s_alloc H0 zv34 rfl hN fun w1 b2 hN gw1 hB2 hgeb2 heb2 a1 H1 => ?_
  clear H0 a0
  replace hB2 : Box _ _ _ [.slice none 0 0, .slice none 0 0, .int .i64 0, .int .i64 0, .int .u64 0] 34 := hB2
  refine wl_end ?_
  refine th_n ?_
  refine wpIn_seq ?_
  refine w_reg ?_
  refine wl1 H1 (r_move rfl) rfl rfl rfl rfl fun a2 H2 => ?_
  clear H1 a1
  refine wlc  H2 rfl rfl hb25 rfl (jread' hN.sat hA hlc hmax) fun v w2 hR a3 H3 => ?_
  clear H2 a2
  obtain ⟨J2, nw2, ⟨A1, c1, A2, c2, rfl, hc1, hE1, hc2, hE2⟩⟩ := hR
  replace hA := hA.up nw2.le
  replace hB2 := hB2.next nw2
  have hN := hN.trans nw2
  refine wl1 H3 (r_move rfl) rfl rfl rfl rfl fun a4 H4 => ?_
  clear H3 a3
  refine wl1 H4 (r_extract rfl rfl) rfl rfl rfl rfl fun a5 H5 => ?_
  clear H4 a4
  refine wl1 H5 (r_extract rfl rfl) rfl rfl rfl rfl fun a6 H6 => ?_
  clear H5 a5
  refine wl1 H6 (r_extract rfl rfl) rfl rfl rfl rfl fun a7 H7 => ?_
  clear H6 a6
  refine wl1 H7 (r_assign rfl) rfl rfl rfl rfl fun a8 H8 => ?_
  clear H7 a7
  refine wl1 H8 (r_assign rfl) rfl rfl rfl rfl fun a9 H9 => ?_
  clear H8 a8
  refine wl1 H9 (r_assign rfl) rfl rfl rfl rfl fun a10 H10 => ?_
  clear H9 a9
  refine wl_end ?_
  refine th_n ?_
  refine wpIn_seq ?_
  refine w_reg ?_
  refine wl1 H10 (r_move rfl) rfl rfl rfl rfl fun a11 H11 => ?_
  clear H10 a10
  refine wl1 H11 (r_move rfl) rfl rfl rfl rfl fun a12 H12 => ?_
  clear H11 a11
  refine wl1 H12 (r_move rfl) rfl rfl rfl rfl fun a13 H13 => ?_
  clear H12 a12
  refine wl1 H13 (r_build (v := .agg #[.slice A1 (jall l 0).recs.length c1, .slice A2 (l.length - (jall l 0).off) c2, .int .i64 (if (jall l 0).off < l.length then 60 else 0), .int .i64 0, .int .u64 0]) rfl (fun w => by kernel_rfl)) rfl rfl rfl rfl fun a14 H14 => ?_
  clear H13 a13
  refine s_storeA (vs := [_, _, _, _, _]) H14 sz34 (by simp) (by simp [Value.oneCell']) rfl rfl hN hB2 (by simp) hgeb2 fun w3 hN hB2 ew3 H15 => ?_
  clear H14
  simp only [Nat.zero_add, Nat.add_zero, Nat.reduceAdd, Nat.reduceMul, List.set_cons_zero, List.set_cons_succ, spliceL] at hB2
  clear ew3
  refine wl_end ?_
  refine th_n ?_
  refine wpIn_ret ?_
  refine fin_r H15 (resC rfl H15 rfl hB2 ag34) ?_
  exact ⟨J2, hN, A1, c1, A2, c2, rfl, hc1, hE1, hc2, hE2⟩
set_option maxRecDepth 100000 in
set_option maxHeartbeats 400000 in
theorem lput {A R : Option Addr} {c cr : Nat} {l rec : List Int} {I : Im} {w : World} (hS : Sat I w) (hA : Els (kInt .u8) I A l) (hlc : l.length ≤ c) (hmax : l.length ≤ 16777216) (hR : Els (kInt .i64) I R rec) (hrc : rec.length ≤ cr) :
    Ret Try.prog 14 [.slice A l.length c, .slice R rec.length cr] w (RPutPost I w l rec) := by
  refine ret_of (N := 16) Try.func14 rfl rfl rfl fun a0 H0 => ?_
  have hN := New.refl hS
  simp only [argsEnv, Nat.zero_add, Nat.reduceAdd] at H0
  refine wpIn_seq ?_
  refine w_reg ?_
  refine s_alloc H0 zv37 rfl hN fun w1 b4 hN gw1 hB4 hgeb4 heb4 a1 H1 => ?_
  clear H0 a0
  replace hB4 : Box _ _ _ [.slice none 0 0, .int .i64 0] 37 := hB4
  refine wl_end ?_
  refine th_n ?_
  refine wpIn_seq ?_
  refine w_reg ?_
  refine wl1 H1 (r_move rfl) rfl rfl rfl rfl fun a2 H2 => ?_
  clear H1 a1
  refine wl1 H2 (r_move rfl) rfl rfl rfl rfl fun a3 H3 => ?_
  clear H2 a2
  refine wlc  H3 rfl rfl hb27 rfl (jput' hN.sat hA hlc hmax hR hrc) fun v w2 hR a4 H4 => ?_
  clear H3 a3
  obtain ⟨J2, nw2, ⟨A1, c1, rfl, hc1, hE1⟩⟩ := hR
  replace hA := hA.up nw2.le
  replace hR := hR.up nw2.le
  replace hB4 := hB4.next nw2
  have hN := hN.trans nw2
  refine wl1 H4 (r_move rfl) rfl rfl rfl rfl fun a5 H5 => ?_
  clear H4 a4
  refine wl1 H5 (r_extract rfl rfl) rfl rfl rfl rfl fun a6 H6 => ?_
  clear H5 a5
  refine wl1 H6 (r_extract rfl rfl) rfl rfl rfl rfl fun a7 H7 => ?_
  clear H6 a6
  refine wl1 H7 (r_assign rfl) rfl rfl rfl rfl fun a8 H8 => ?_
  clear H7 a7
  refine wl1 H8 (r_assign rfl) rfl rfl rfl rfl fun a9 H9 => ?_
  clear H8 a8
  refine wl_end ?_
  refine th_n ?_
  refine wpIn_seq ?_
  refine w_reg ?_
  refine wl1 H9 (r_move rfl) rfl rfl rfl rfl fun a10 H10 => ?_
  clear H9 a9
  refine wl1 H10 (r_move rfl) rfl rfl rfl rfl fun a11 H11 => ?_
  clear H10 a10
  refine wl1 H11 (r_build (v := .agg #[.slice A1 (putB l rec).length c1, .int .i64 (putErr l rec)]) rfl (fun w => by kernel_rfl)) rfl rfl rfl rfl fun a12 H12 => ?_
  clear H11 a11
  refine s_storeA (vs := [_, _]) H12 sz37 (by simp) (by simp [Value.oneCell']) rfl rfl hN hB4 (by simp) hgeb4 fun w3 hN hB4 ew3 H13 => ?_
  clear H12
  simp only [Nat.zero_add, Nat.add_zero, Nat.reduceAdd, Nat.reduceMul, List.set_cons_zero, List.set_cons_succ, spliceL] at hB4
  clear ew3
  refine wl_end ?_
  refine th_n ?_
  refine wpIn_ret ?_
  refine fin_r H13 (resC rfl H13 rfl hB4 ag37) ?_
  exact ⟨J2, hN, A1, c1, rfl, hc1, hE1⟩
set_option maxRecDepth 100000 in
set_option maxHeartbeats 400000 in
theorem lmade {A : Option Addr} {c : Nat} {rs : List (List Int)} {I : Im} {w : World} (hS : Sat I w) (hA : Els (kSl (kInt .i64)) I A rs) (hrs : rs.length ≤ 65536) :
    Ret Try.prog 22 [.slice A rs.length c] w (MadePost I w rs) := by
  have hl9 := hA.1
  refine ret_of (N := 29) Try.func22 rfl rfl rfl fun a0 H0 => ?_
  have hN := New.refl hS
  simp only [argsEnv, Nat.zero_add, Nat.reduceAdd] at H0
  refine wpIn_seq ?_
  refine w_reg ?_
  refine wl1 H0 (r_assign rfl) rfl rfl rfl rfl fun a1 H1 => ?_
  clear H0 a0
  refine wl1 H1 (r_assign rfl) rfl rfl rfl rfl fun a2 H2 => ?_
  clear H1 a1
  refine wl_end ?_
  refine th_n ?_
  refine wpIn_seq ?_
  refine w_reg ?_
  refine s_lit1 (cs := []) H2 Try.underlying22 sz5 zv5 rfl rfl rfl (by simp [Value.oneCell']) rfl hN fun w1 l7 K1 hKl7 hlel7 hN nw1 hgel7 a3 H3 => ?_
  clear H2 a2
  replace hA := hA.up nw1.le
  refine s_lit1 (cs := []) H3 Try.underlying29 sz3 zv3 rfl rfl rfl (by simp [Value.oneCell']) rfl hN fun w2 l8 K2 hKl8 hlel8 hN nw2 hgel8 a4 H4 => ?_
  clear H3 a3
  replace hA := hA.up nw2.le
  refine wl1 H4 (r_assign rfl) rfl rfl rfl rfl fun a5 H5 => ?_
  clear H4 a4
  refine wl1 H5 (r_assign rfl) rfl rfl rfl rfl fun a6 H6 => ?_
  clear H5 a5
  refine wl_end ?_
  refine th_n ?_
  refine wpIn_seq ?_
  refine wpIn_seq ?_
  refine w_reg ?_
  refine wl1 H6 (r_assign rfl) rfl rfl rfl rfl fun a7 H7 => ?_
  clear H6 a6
  refine wl_end ?_
  refine th_n ?_
  refine wpIn_block ?_
  refine w_loop (ι := (Nat × Option Addr × Nat × Value) × Im) (fun xJ => (fun x => [(6, .int .i64 (x.1 : Int)), (4, .slice x.2.1 (jfold (rs.take x.1)).length x.2.2.1), (5, x.2.2.2)]) xJ.1) (fun xJ W => Im.le K2 xJ.2 ∧ New I w xJ.2 W ∧ (fun x (J : Im) => x.1 ≤ rs.length ∧ (jfold (rs.take x.1)).length ≤ x.2.2.1 ∧ Els (kInt .u8) J x.2.1 (jfold (rs.take x.1)) ∧ Apx (kInt .i64) J W w.heap.size 3 x.2.2.2 ((jends rs).take x.1)) xJ.1 xJ.2) (fun xJ => (fun x => rs.length - x.1) xJ.1) (l0 := [(0, _), (2, _), (3, _)]) ((0, _, _, _), K2) H7 ⟨rfl, rfl, rfl, rfl, rfl, rfl, trivial⟩ ⟨Im.le.refl _, hN, Nat.zero_le _, Nat.le_refl _, Els.nil _ _ _, .inr ⟨_, rfl, Els.nil _ _ _⟩⟩ ?_
  rintro ⟨⟨k, A1, c1, u⟩, J3⟩ a8 w3 H8 ⟨hleJ1, hN, hk, hc1, hE1, hO⟩
  clear H7 a7
  simp only [List.cons_append, List.nil_append] at H8
  try dsimp only at hleJ1
  try dsimp only at hN
  replace hA := hA.up hleJ1
  simp only at hk hc1 hE1 hO H8
  try dsimp only at hE1
  try dsimp only at hO
  try dsimp only at hc1
  try dsimp only at hk
  refine wpIn_seq ?_
  refine wpIn_seq ?_
  refine w_reg ?_
  refine wl1 H8 (r_move rfl) rfl rfl rfl rfl fun a9 H9 => ?_
  clear H8 a8
  refine wl1 H9 (r_move rfl) rfl rfl rfl rfl fun a10 H10 => ?_
  clear H9 a9
  refine wl1 H10 (r_len Try.underlying23 rfl) rfl rfl rfl rfl fun a11 H11 => ?_
  clear H10 a10
  refine wl1 H11 (r_lss rfl rfl) rfl rfl rfl rfl fun a12 H12 => ?_
  clear H11 a11
  refine wl_end ?_
  refine th_n ?_
  first | refine w_if H12 rfl (fun hc12 => ?_) (fun hc12 => ?_) | refine w_cond H12 rfl (fun hc12 => ?_) (fun hc12 => ?_)
  ·
    try simp only [decide_eq_true_eq, decide_eq_false_iff_not, Bool.or_eq_true, Bool.and_eq_true, Bool.or_eq_false_iff, Bool.and_eq_false_iff, Bool.not_eq_true', Bool.not_eq_false', Int.not_lt, Int.not_le, ne_eq, Decidable.not_not] at hc12
    obtain ⟨bA, oA, rfl⟩ := hA.form (by omega)
    have hkl : k < rs.length := by omega
    obtain ⟨AA, cA, hcA, hlA, hEA⟩ := hA.rowAt hkl
    have hjl := jfold_le (rs.take k)
    refine wpIn_skip ?_
    refine th_n ?_
    refine wpIn_seq ?_
    refine wpIn_block ?_
    refine wpIn_seq ?_
    refine w_reg ?_
    refine wl1 H12 (r_move rfl) rfl rfl rfl rfl fun a13 H13 => ?_
    clear H12 a12
    refine wl1 H13 (r_move rfl) rfl rfl rfl rfl fun a14 H14 => ?_
    clear H13 a13
    refine wl1 H14 (r_move rfl) rfl rfl rfl rfl fun a15 H15 => ?_
    clear H14 a14
    refine wl1 H15 (r_idx Try.underlying23 sz29 rfl rfl (i := k) rfl (by omega)) rfl rfl rfl rfl fun a16 H16 => ?_
    clear H15 a15
    refine wl1 H16 (r_load sc29 rfl (hN.sat.cell hcA)) rfl rfl rfl rfl fun a17 H17 => ?_
    clear H16 a16
    refine wlc  H17 rfl rfl hb14 rfl (lput hN.sat hE1 hc1 (by omega) hEA hlA) fun v w4 hR a18 H18 => ?_
    clear H17 a17
    obtain ⟨J4, nw4, ⟨A2, c2, rfl, hc2, hE2⟩⟩ := hR
    replace hA := hA.up nw4.le
    replace hE1 := hE1.up nw4.le
    replace hO := hO.next nw4
    replace hleJ1 := hleJ1.trans nw4.le
    have hN := hN.trans nw4
    rw [← jfold_take hkl] at hc2 hE2 H18
    have hjl2 := jfold_le (rs.take (k + 1))
    refine wl1 H18 (r_fieldv 0 rfl rfl (by kernel_rfl)) rfl rfl rfl rfl fun a19 H19 => ?_
    clear H18 a18
    refine wl1 H19 (r_assign rfl) rfl rfl rfl rfl fun a20 H20 => ?_
    clear H19 a19
    refine wl_end ?_
    refine th_n ?_
    refine w_reg ?_
    refine wl1 H20 (r_move rfl) rfl rfl rfl rfl fun a21 H21 => ?_
    clear H20 a20
    refine wl1 H21 (r_move rfl) rfl rfl rfl rfl fun a22 H22 => ?_
    clear H21 a21
    refine wl1 H22 (r_len Try.underlying22 rfl) rfl rfl rfl rfl fun a23 H23 => ?_
    clear H22 a22
    refine s_lit1 (cs := [_]) H23 Try.underlying29 sz3 zv3 rfl rfl rfl (by simp [Value.oneCell']) rfl hN fun w5 l25 K5 hKl25 hlel25 hN nw5 hgel25 a24 H24 => ?_
    clear H23 a23
    replace hA := hA.up nw5.le
    replace hE1 := hE1.up nw5.le
    replace hE2 := hE2.up nw5.le
    replace hO := hO.next nw5
    replace hleJ1 := hleJ1.trans nw5.le
    have hE25 : Els (kInt .i64) K5 (some ⟨l25, 0, none⟩) [((jfold (rs.take (k + 1))).length : Int)] := Els.nums hKl25 (by simp) (by simp only [List.mem_singleton, InK]; rintro x rfl; omega)
    refine s_app (B := w.heap.size) H24 rfl rfl Try.underlying29 nf3 rfl (by decide) (by decide) rfl hN hO hE25 rfl (Nat.le_refl _) hN.gr.size (by simp only [List.length_take, jends_length]; omega) fun vw6 w6 hO hOO hOO2 kw6 hN a25 H25 => ?_
    clear H24 a24
    rw [← jends_take hkl] at hO
    refine wl1 H25 (r_assign rfl) rfl rfl rfl rfl fun a26 H26 => ?_
    clear H25 a25
    refine wl_end ?_
    refine bl_n ?_
    refine th_n ?_
    refine w_reg ?_
    refine wl1 H26 (r_move rfl) rfl rfl rfl rfl fun a27 H27 => ?_
    clear H26 a26
    first | refine wl1 H27 (r_addk rfl rfl (by simp only [InK]; omega)) rfl rfl rfl rfl fun a28 H28 => ?_ | refine wl1 H27 (r_add rfl rfl) rfl rfl rfl rfl fun a28 H28 => ?_
    clear H27 a27
    refine wl1 H28 (r_assign rfl) rfl rfl rfl rfl fun a29 H29 => ?_
    clear H28 a28
    refine wl_end ?_
    exact th_n ⟨((k + 1, A2, c2, _), K5), (by show rs.length - (k + 1) < rs.length - k; omega), H29.sub ⟨rfl, rfl, rfl, rfl, rfl, rfl, trivial⟩, hleJ1, hN, by show k + 1 ≤ rs.length; omega, hc2, hE2, hO⟩
  ·
    try simp only [decide_eq_true_eq, decide_eq_false_iff_not, Bool.or_eq_true, Bool.and_eq_true, Bool.or_eq_false_iff, Bool.and_eq_false_iff, Bool.not_eq_true', Bool.not_eq_false', Int.not_lt, Int.not_le, ne_eq, Decidable.not_not] at hc12
    refine wpIn_exit ?_
    refine th_x ?_
    refine th_x ?_
    refine bl_hit ?_
    refine th_n ?_
    refine wpIn_seq ?_
    refine w_reg ?_
    refine wl1 H12 (r_move rfl) rfl rfl rfl rfl fun a13 H30 => ?_
    clear H12 a12
    refine wl1 H30 (r_move rfl) rfl rfl rfl rfl fun a14 H31 => ?_
    clear H30 a13
    refine wl1 H31 (r_assign rfl) rfl rfl rfl rfl fun a15 H32 => ?_
    clear H31 a14
    refine wl1 H32 (r_assign rfl) rfl rfl rfl rfl fun a16 H33 => ?_
    clear H32 a15
    refine wl_end ?_
    refine th_n ?_
    refine wpIn_ret ?_
    refine fin_r H33 (res2 rfl H33 rfl rfl) ?_
    rw [List.take_of_length_le (by omega)] at hc1 hE1
    rw [List.take_of_length_le (by rw [jends_length]; omega)] at hO
    obtain ⟨J9, A9, c9, hN9, hle9, _, rfl, hcc9, hE9⟩ := hO.freeze hN (Nat.le_refl _)
    exact ⟨J9, hN9, A1, c1, A9, c9, by rw [List.take_of_length_le (by omega)], hc1, hE1.up hle9, hcc9, hE9⟩
set_option maxRecDepth 100000 in
set_option maxHeartbeats 400000 in
theorem lword {A : Option Addr} {l : List Int} {c at_ : Nat} {I : Im} {w : World} (hS : Sat I w) (hA : Els (kInt .u8) I A l) (hat : at_ + 8 ≤ l.length) :
    Ret Try.prog 23 [.slice A l.length c, .int .i64 (at_ : Int)] w (fun v w' => v = .int .u64 (wordAt l at_) ∧ Gr w w') := by
  have hl := hA.1
  have hIB : isB l := hA.inK
  obtain ⟨bA, oA, rfl⟩ := hA.form (by omega)
  refine ret_of (N := 22) Try.func23 rfl rfl rfl fun a0 H0 => ?_
  have hN := New.refl hS
  simp only [argsEnv, Nat.zero_add, Nat.reduceAdd] at H0
  refine wpIn_seq ?_
  refine w_reg ?_
  refine wl1 H0 (r_assign rfl) rfl rfl rfl rfl fun a1 H1 => ?_
  clear H0 a0
  refine wl_end ?_
  refine th_n ?_
  refine wpIn_seq ?_
  refine w_reg ?_
  refine wl1 H1 (r_assign rfl) rfl rfl rfl rfl fun a2 H2 => ?_
  clear H1 a1
  refine wl_end ?_
  refine th_n ?_
  refine wpIn_seq ?_
  refine wpIn_seq ?_
  refine w_reg ?_
  refine wl1 H2 (r_assign rfl) rfl rfl rfl rfl fun a3 H3 => ?_
  clear H2 a2
  refine wl_end ?_
  refine th_n ?_
  refine wpIn_block ?_
  refine w_loop (ι := Nat) (fun k => [(6, .int .i64 (7 - (k : Int))), (5, .int .u64 (leSum ((l.drop (at_ + (8 - k))).take k)))]) (fun k W => New I w I W ∧ (k ≤ 8)) (fun k => 8 - k) (l0 := [(0, _), (1, _), (4, _)]) 0 H3 ⟨rfl, rfl, rfl, rfl, rfl, trivial⟩ ⟨hN, by omega⟩ ?_
  rintro k a4 w1 H4 ⟨hN, hk⟩
  clear H3 a3
  simp only [List.cons_append, List.nil_append] at H4
  refine wpIn_seq ?_
  refine wpIn_seq ?_
  refine w_reg ?_
  refine wl1 H4 (r_move rfl) rfl rfl rfl rfl fun a5 H5 => ?_
  clear H4 a4
  refine wl1 H5 (r_geq rfl rfl) rfl rfl rfl rfl fun a6 H6 => ?_
  clear H5 a5
  refine wl_end ?_
  refine th_n ?_
  first | refine w_if H6 rfl (fun hc8 => ?_) (fun hc8 => ?_) | refine w_cond H6 rfl (fun hc8 => ?_) (fun hc8 => ?_)
  ·
    try simp only [decide_eq_true_eq, decide_eq_false_iff_not, Bool.or_eq_true, Bool.and_eq_true, Bool.or_eq_false_iff, Bool.and_eq_false_iff, Bool.not_eq_true', Bool.not_eq_false', Int.not_lt, Int.not_le, ne_eq, Decidable.not_not] at hc8
    refine wpIn_skip ?_
    refine th_n ?_
    refine wpIn_seq ?_
    refine wpIn_block ?_
    refine w_reg ?_
    refine wl1 H6 (r_move rfl) rfl rfl rfl rfl fun a7 H7 => ?_
    clear H6 a6
    refine wl1 H7 (r_shl rfl rfl (by omega)) rfl rfl rfl rfl fun a8 H8 => ?_
    clear H7 a7
    refine wl1 H8 (r_move rfl) rfl rfl rfl rfl fun a9 H9 => ?_
    clear H8 a8
    refine wl1 H9 (r_move rfl) rfl rfl rfl rfl fun a10 H10 => ?_
    clear H9 a9
    refine wl1 H10 (r_move rfl) rfl rfl rfl rfl fun a11 H11 => ?_
    clear H10 a10
    first | refine wl1 H11 (r_addk rfl rfl (by simp only [InK]; omega)) rfl rfl rfl rfl fun a12 H12 => ?_ | refine wl1 H11 (r_add rfl rfl) rfl rfl rfl rfl fun a12 H12 => ?_
    clear H11 a11
    refine wl1 H12 (r_idx Try.underlying22 sz5 rfl rfl (i := at_ + (7 - k)) (by omega) (by omega)) rfl rfl rfl rfl fun a13 H13 => ?_
    clear H12 a12
    refine wl1 H13 (r_load sc5 rfl (hN.sat.cell (hA.num (j := at_ + (7 - k)) (by omega)).1)) rfl rfl rfl rfl fun a14 H14 => ?_
    clear H13 a13
    refine wl1 H14 (r_convk Try.underlying5 Try.underlying32 rfl (by have := hIB l[at_ + (7 - k)] (List.getElem_mem _); simp only [InK]; omega)) rfl rfl rfl rfl fun a15 H15 => ?_
    clear H14 a14
    refine wl1 H15 (r_or rfl rfl) rfl rfl rfl rfl fun a16 H16 => ?_
    clear H15 a15
    refine wl1 H16 (r_assign rfl) rfl rfl rfl rfl fun a17 H17 => ?_
    clear H16 a16
    refine wl_end ?_
    refine bl_n ?_
    refine th_n ?_
    refine w_reg ?_
    refine wl1 H17 (r_move rfl) rfl rfl rfl rfl fun a18 H18 => ?_
    clear H17 a17
    first | refine wl1 H18 (r_subk rfl rfl (by simp only [InK]; omega)) rfl rfl rfl rfl fun a19 H19 => ?_ | refine wl1 H18 (r_sub rfl rfl) rfl rfl rfl rfl fun a19 H19 => ?_
    clear H18 a18
    refine wl1 H19 (r_assign rfl) rfl rfl rfl rfl fun a20 H20 => ?_
    clear H19 a19
    refine wl_end ?_
    exact th_n ⟨k + 1, (by omega), H20.sub ⟨(congrArg some (congrArg (Value.int .i64) (by omega))), (congrArg some (congrArg (Value.int .u64) (leSum_front hIB (by omega) (by omega)))), rfl, rfl, rfl, trivial⟩, hN, by omega⟩
  ·
    try simp only [decide_eq_true_eq, decide_eq_false_iff_not, Bool.or_eq_true, Bool.and_eq_true, Bool.or_eq_false_iff, Bool.and_eq_false_iff, Bool.not_eq_true', Bool.not_eq_false', Int.not_lt, Int.not_le, ne_eq, Decidable.not_not] at hc8
    refine wpIn_exit ?_
    refine th_x ?_
    refine th_x ?_
    refine bl_hit ?_
    refine th_n ?_
    refine wpIn_seq ?_
    refine w_reg ?_
    refine wl1 H6 (r_move rfl) rfl rfl rfl rfl fun a7 H21 => ?_
    clear H6 a6
    refine wl1 H21 (r_assign rfl) rfl rfl rfl rfl fun a8 H22 => ?_
    clear H21 a7
    refine wl_end ?_
    refine th_n ?_
    refine wpIn_ret ?_
    refine fin_r H22 (res1 rfl H22 rfl) ?_
    exact ⟨by rw [show k = 8 by omega]; rfl, hN.gr⟩
end Go.Proofs.Yteinlgobadlgnaa
