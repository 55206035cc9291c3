/- The reference of the journal: the next record. -/
import Derived.Test.YteinlgobadlgnaaRefB
set_option linter.unusedVariables false
set_option linter.unusedSimpArgs false
namespace Go.Proofs.Yteinlgobadlgnaa
open Go.RowKit


/-- What the reference's next answers. -/
def RNextPost (I : Im) (w : World) (l : List Int) (at_ : Nat) (key : Int) (v : Value) (w' : World) : Prop :=
  ∃ J, New I w J w' ∧ ((¬ Jok (l.drop at_) key ∧ v = .agg #[.slice none 0 0, .int .u64 0, .int .i64 0, .bool false]) ∨
    (Jok (l.drop at_) key ∧ ∃ A c, jn (l.drop at_) ≤ c ∧ Els (kInt .i64) J A (recAt (l.drop at_) (jn (l.drop at_))) ∧ v = .agg #[.slice A (recAt (l.drop at_) (jn (l.drop at_))).length c, .int .u64 (wordAt (l.drop at_) (16 + 8 * jn (l.drop at_))), .int .i64 ((at_ + (24 + 8 * jn (l.drop at_)) : Nat) : Int), .bool true]))
theorem recAt_succ (l : List Int) (n k : Nat) (h : k < n) : (recAt l n).take (k + 1) = (recAt l n).take k ++ [IntKind.i64.wrap (wordAt l (16 + 8 * k))] := by
  rw [List.take_succ_eq_append_getElem (by rw [recAt_length]; exact h)]; simp [recAt]

set_option maxRecDepth 100000 in
set_option maxHeartbeats 4000000 in
theorem rnext {A : Option Addr} {l : List Int} {c at_ : Nat} {key : Int} {I : Im} {w : World} (hS : Sat I w) (hA : Els (kInt .u8) I A l) (hat : at_ ≤ l.length) (hlc : l.length ≤ c) (hmax : l.length ≤ 16777216) :
    Ret Try.prog 26 [.slice A l.length c, .int .i64 (at_ : Int), .int .u64 key] w (RNextPost I w l at_ key) := by
  have hIB : isB l := hA.inK
  have hjn : wordAt l at_ = (jn (l.drop at_) : Int) := by have := jn_eq (isB_drop hIB at_); rw [wordAt_drop] at this; exact this
  have hdl : (l.drop at_).length = l.length - at_ := by simp
  refine ret_of (N := 85) Try.func26 rfl rfl rfl fun a0 H0 => ?_
  have hN := New.refl hS
  simp only [argsEnv, Nat.zero_add, Nat.reduceAdd] at H0
  refine wpIn_seq ?_
  refine w_reg ?_
  refine s_alloc H0 zv55 rfl hN fun w1 b6 hN gw1 hB6 hgeb6 heb6 a1 H1 => ?_
  clear H0 a0
  replace hB6 : Box _ _ _ [.slice none 0 0, .int .u64 0, .int .i64 0, .bool false] 55 := hB6
  refine wl_end ?_
  refine th_n ?_
  refine wpIn_seq ?_
  refine wpIn_seq ?_
  refine w_reg ?_
  refine wl1 H1 (r_move rfl) rfl rfl rfl rfl fun a2 H2 => ?_
  clear H1 a1
  refine wl1 H2 (r_len Try.underlying22 rfl) rfl rfl rfl rfl fun a3 H3 => ?_
  clear H2 a2
  refine wl1 H3 (r_move rfl) rfl rfl rfl rfl fun a4 H4 => ?_
  clear H3 a3
  first | refine wl1 H4 (r_subk rfl rfl (by simp only [InK]; omega)) rfl rfl rfl rfl fun a5 H5 => ?_ | refine wl1 H4 (r_sub rfl rfl) rfl rfl rfl rfl fun a5 H5 => ?_
  clear H4 a4
  refine wl1 H5 (r_lss rfl rfl) rfl rfl rfl rfl fun a6 H6 => ?_
  clear H5 a5
  refine wl_end ?_
  refine th_n ?_
  first | refine w_if H6 rfl (fun hc15 => ?_) (fun hc15 => ?_) | refine w_cond H6 rfl (fun hc15 => ?_) (fun hc15 => ?_)
  ·
    try simp only [decide_eq_true_eq, decide_eq_false_iff_not, Bool.or_eq_true, Bool.and_eq_true, Bool.or_eq_false_iff, Bool.and_eq_false_iff, Bool.not_eq_true', Bool.not_eq_false', Int.not_lt, Int.not_le, ne_eq, Decidable.not_not] at hc15
    refine wpIn_seq ?_
    refine w_reg ?_
    refine wl1 H6 (r_build (v := .agg #[.slice none 0 0, .int .u64 0, .int .i64 0, .bool false]) rfl (fun w => by kernel_rfl)) rfl rfl rfl rfl fun a7 H7 => ?_
    clear H6 a6
    refine s_storeA (vs := [_, _, _, _]) H7 sz55 (by simp) (by simp [Value.oneCell']) rfl rfl hN hB6 (by simp) hgeb6 fun w2 hN hB6 ew2 H8 => ?_
    clear H7
    simp only [Nat.zero_add, Nat.add_zero, Nat.reduceAdd, Nat.reduceMul, List.set_cons_zero, List.set_cons_succ, spliceL] at hB6
    clear ew2
    refine wl_end ?_
    refine th_n ?_
    refine wpIn_ret ?_
    refine th_r ?_
    refine fin_r H8 (resC rfl H8 rfl hB6 ag55) ?_
    exact ⟨I, hN, .inl ⟨fun h => by have := h.h24; omega, rfl⟩⟩
  ·
    try simp only [decide_eq_true_eq, decide_eq_false_iff_not, Bool.or_eq_true, Bool.and_eq_true, Bool.or_eq_false_iff, Bool.and_eq_false_iff, Bool.not_eq_true', Bool.not_eq_false', Int.not_lt, Int.not_le, ne_eq, Decidable.not_not] at hc15
    refine wpIn_skip ?_
    refine th_n ?_
    refine wpIn_seq ?_
    refine w_reg ?_
    refine wl1 H6 (r_move rfl) rfl rfl rfl rfl fun a7 H9 => ?_
    clear H6 a6
    refine wl1 H9 (r_move rfl) rfl rfl rfl rfl fun a8 H10 => ?_
    clear H9 a7
    refine wlc  H10 rfl rfl hb33 rfl (rword hN.sat hA (by omega)) fun v w3 hR a9 H11 => ?_
    clear H10 a8
    obtain ⟨rfl, gw3⟩ := hR
    have hN := hN.ofGr gw3
    replace hB6 := hB6.gr gw3
    rw [hjn] at H11
    refine wl1 H11 (r_assign rfl) rfl rfl rfl rfl fun a10 H12 => ?_
    clear H11 a9
    refine wl_end ?_
    refine th_n ?_
    refine wpIn_seq ?_
    refine wpIn_seq ?_
    refine w_reg ?_
    refine wl1 H12 (r_move rfl) rfl rfl rfl rfl fun a11 H13 => ?_
    clear H12 a10
    refine wl1 H13 (r_gtr rfl rfl) rfl rfl rfl rfl fun a12 H14 => ?_
    clear H13 a11
    refine wl1 H14 (r_move rfl) rfl rfl rfl rfl fun a13 H15 => ?_
    clear H14 a12
    refine wl_split (t := 22) H15 rfl (fun hg4_2 H16 => ?_) (fun hg4_2 H16 => ?_)
    ·
      clear H15
      try simp only [decide_eq_true_eq, decide_eq_false_iff_not, Bool.or_eq_true, Bool.and_eq_true, Bool.or_eq_false_iff, Bool.and_eq_false_iff, Bool.not_eq_true', Bool.not_eq_false', Int.not_lt, Int.not_le, ne_eq, Decidable.not_not] at hg4_2
      refine wl_off (d := 22) H16 rfl rfl rfl rfl rfl rfl fun a14 H17 => ?_
      clear H16 a13
      refine wl_off (d := 22) H17 rfl rfl rfl rfl rfl rfl fun a15 H18 => ?_
      clear H17 a14
      refine wl_off (d := 22) H18 rfl rfl rfl rfl rfl rfl fun a16 H19 => ?_
      clear H18 a15
      refine wl_off (d := 22) H19 rfl rfl rfl rfl rfl rfl fun a17 H20 => ?_
      clear H19 a16
      refine wl_off (d := 22) H20 rfl rfl rfl rfl rfl rfl fun a18 H21 => ?_
      clear H20 a17
      refine wl_off (d := 22) H21 rfl rfl rfl rfl rfl rfl fun a19 H22 => ?_
      clear H21 a18
      refine wl_off (d := 22) H22 rfl rfl rfl rfl rfl rfl fun a20 H23 => ?_
      clear H22 a19
      refine wl_off (d := 22) H23 rfl rfl rfl rfl rfl rfl fun a21 H24 => ?_
      clear H23 a20
      refine wl_off (d := 22) H24 rfl rfl rfl rfl rfl rfl fun a22 H25 => ?_
      clear H24 a21
      refine wl1 H25 (r_pick_t rfl rfl) rfl rfl rfl rfl fun a23 H26 => ?_
      clear H25 a22
      refine wl1 H26 (r_move rfl) rfl rfl rfl rfl fun a24 H27 => ?_
      clear H26 a23
      refine wl_off (d := 33) H27 rfl rfl rfl rfl rfl rfl fun a25 H28 => ?_
      clear H27 a24
      refine wl_off (d := 33) H28 rfl rfl rfl rfl rfl rfl fun a26 H29 => ?_
      clear H28 a25
      refine wl_off (d := 33) H29 rfl rfl rfl rfl rfl rfl fun a27 H30 => ?_
      clear H29 a26
      refine wl_off (d := 33) H30 rfl rfl rfl rfl rfl rfl fun a28 H31 => ?_
      clear H30 a27
      refine wl_off (d := 33) H31 rfl rfl rfl rfl rfl rfl fun a29 H32 => ?_
      clear H31 a28
      refine wl_off (d := 33) H32 rfl rfl rfl rfl rfl rfl fun a30 H33 => ?_
      clear H32 a29
      refine wl_off (d := 33) H33 rfl rfl rfl rfl rfl rfl fun a31 H34 => ?_
      clear H33 a30
      refine wl_off (d := 33) H34 rfl rfl rfl rfl rfl rfl fun a32 H35 => ?_
      clear H34 a31
      refine wl_off (d := 33) H35 rfl rfl rfl rfl rfl rfl fun a33 H36 => ?_
      clear H35 a32
      refine wl_off (d := 33) H36 rfl rfl rfl rfl rfl rfl fun a34 H37 => ?_
      clear H36 a33
      refine wl1 H37 (r_pick_t rfl rfl) rfl rfl rfl rfl fun a35 H38 => ?_
      clear H37 a34
      refine wl_end ?_
      refine th_n ?_
      refine w_tt H38 rfl rfl ?_
      refine wpIn_seq ?_
      refine w_reg ?_
      refine wl1 H38 (r_build (v := .agg #[.slice none 0 0, .int .u64 0, .int .i64 0, .bool false]) rfl (fun w => by kernel_rfl)) rfl rfl rfl rfl fun a36 H39 => ?_
      clear H38 a35
      refine s_storeA (vs := [_, _, _, _]) H39 sz55 (by simp) (by simp [Value.oneCell']) rfl rfl hN hB6 (by simp) hgeb6 fun w4 hN hB6 ew4 H40 => ?_
      clear H39
      simp only [Nat.zero_add, Nat.add_zero, Nat.reduceAdd, Nat.reduceMul, List.set_cons_zero, List.set_cons_succ, spliceL] at hB6
      clear ew4
      refine wl_end ?_
      refine th_n ?_
      refine wpIn_ret ?_
      refine th_r ?_
      refine fin_r H40 (resC rfl H40 rfl hB6 ag55) ?_
      exact ⟨I, hN, .inl ⟨(fun h => by have h1 := h.n256; have h2 := jn_eq (isB_drop hIB at_); omega), rfl⟩⟩
    ·
      clear H15
      try simp only [decide_eq_true_eq, decide_eq_false_iff_not, Bool.or_eq_true, Bool.and_eq_true, Bool.or_eq_false_iff, Bool.and_eq_false_iff, Bool.not_eq_true', Bool.not_eq_false', Int.not_lt, Int.not_le, ne_eq, Decidable.not_not] at hg4_2
      refine wl_on (d := 22) H16 rfl rfl rfl ?_
      refine wl1 H16 (r_move rfl) rfl rfl rfl rfl fun a14 H41 => ?_
      clear H16 a13
      refine wl_on (d := 22) H41 rfl rfl rfl ?_
      refine wl1 H41 (r_len Try.underlying22 rfl) rfl rfl rfl rfl fun a15 H42 => ?_
      clear H41 a14
      refine wl_on (d := 22) H42 rfl rfl rfl ?_
      refine wl1 H42 (r_move rfl) rfl rfl rfl rfl fun a16 H43 => ?_
      clear H42 a15
      refine wl_on (d := 22) H43 rfl rfl rfl ?_
      first | refine wl1 H43 (r_subk rfl rfl (by simp only [InK]; omega)) rfl rfl rfl rfl fun a17 H44 => ?_ | refine wl1 H43 (r_sub rfl rfl) rfl rfl rfl rfl fun a17 H44 => ?_
      clear H43 a16
      refine wl_on (d := 22) H44 rfl rfl rfl ?_
      refine wl1 H44 (r_move rfl) rfl rfl rfl rfl fun a18 H45 => ?_
      clear H44 a17
      refine wl_on (d := 22) H45 rfl rfl rfl ?_
      first | refine wl1 H45 (r_convk Try.underlying32 Try.underlying3 rfl (by simp only [InK]; omega)) rfl rfl rfl rfl fun a19 H46 => ?_ | refine wl1 H45 (r_conv Try.underlying32 Try.underlying3 rfl) rfl rfl rfl rfl fun a19 H46 => ?_
      clear H45 a18
      refine wl_on (d := 22) H46 rfl rfl rfl ?_
      first | refine wl1 H46 (r_mulk rfl rfl (by simp only [InK]; omega)) rfl rfl rfl rfl fun a20 H47 => ?_ | refine wl1 H46 (r_mul rfl rfl) rfl rfl rfl rfl fun a20 H47 => ?_
      clear H46 a19
      refine wl_on (d := 22) H47 rfl rfl rfl ?_
      first | refine wl1 H47 (r_addk rfl rfl (by simp only [InK]; omega)) rfl rfl rfl rfl fun a21 H48 => ?_ | refine wl1 H47 (r_add rfl rfl) rfl rfl rfl rfl fun a21 H48 => ?_
      clear H47 a20
      refine wl_on (d := 22) H48 rfl rfl rfl ?_
      refine wl1 H48 (r_lss rfl rfl) rfl rfl rfl rfl fun a22 H49 => ?_
      clear H48 a21
      refine wl1 H49 (r_pick_f rfl rfl) rfl rfl rfl rfl fun a23 H50 => ?_
      clear H49 a22
      refine wl1 H50 (r_move rfl) rfl rfl rfl rfl fun a24 H51 => ?_
      clear H50 a23
      refine wl_split (t := 33) H51 rfl (fun hg4_13 H52 => ?_) (fun hg4_13 H52 => ?_)
      ·
        clear H51
        try simp only [decide_eq_true_eq, decide_eq_false_iff_not, Bool.or_eq_true, Bool.and_eq_true, Bool.or_eq_false_iff, Bool.and_eq_false_iff, Bool.not_eq_true', Bool.not_eq_false', Int.not_lt, Int.not_le, ne_eq, Decidable.not_not] at hg4_13
        refine wl_off (d := 33) H52 rfl rfl rfl rfl rfl rfl fun a25 H53 => ?_
        clear H52 a24
        refine wl_off (d := 33) H53 rfl rfl rfl rfl rfl rfl fun a26 H54 => ?_
        clear H53 a25
        refine wl_off (d := 33) H54 rfl rfl rfl rfl rfl rfl fun a27 H55 => ?_
        clear H54 a26
        refine wl_off (d := 33) H55 rfl rfl rfl rfl rfl rfl fun a28 H56 => ?_
        clear H55 a27
        refine wl_off (d := 33) H56 rfl rfl rfl rfl rfl rfl fun a29 H57 => ?_
        clear H56 a28
        refine wl_off (d := 33) H57 rfl rfl rfl rfl rfl rfl fun a30 H58 => ?_
        clear H57 a29
        refine wl_off (d := 33) H58 rfl rfl rfl rfl rfl rfl fun a31 H59 => ?_
        clear H58 a30
        refine wl_off (d := 33) H59 rfl rfl rfl rfl rfl rfl fun a32 H60 => ?_
        clear H59 a31
        refine wl_off (d := 33) H60 rfl rfl rfl rfl rfl rfl fun a33 H61 => ?_
        clear H60 a32
        refine wl_off (d := 33) H61 rfl rfl rfl rfl rfl rfl fun a34 H62 => ?_
        clear H61 a33
        refine wl1 H62 (r_pick_t rfl rfl) rfl rfl rfl rfl fun a35 H63 => ?_
        clear H62 a34
        refine wl_end ?_
        refine th_n ?_
        refine w_tt H63 rfl rfl ?_
        refine wpIn_seq ?_
        refine w_reg ?_
        refine wl1 H63 (r_build (v := .agg #[.slice none 0 0, .int .u64 0, .int .i64 0, .bool false]) rfl (fun w => by kernel_rfl)) rfl rfl rfl rfl fun a36 H64 => ?_
        clear H63 a35
        refine s_storeA (vs := [_, _, _, _]) H64 sz55 (by simp) (by simp [Value.oneCell']) rfl rfl hN hB6 (by simp) hgeb6 fun w5 hN hB6 ew5 H65 => ?_
        clear H64
        simp only [Nat.zero_add, Nat.add_zero, Nat.reduceAdd, Nat.reduceMul, List.set_cons_zero, List.set_cons_succ, spliceL] at hB6
        clear ew5
        refine wl_end ?_
        refine th_n ?_
        refine wpIn_ret ?_
        refine th_r ?_
        refine fin_r H65 (resC rfl H65 rfl hB6 ag55) ?_
        exact ⟨I, hN, .inl ⟨(fun h => by have h2 := h.len; omega), rfl⟩⟩
      ·
        clear H51
        try simp only [decide_eq_true_eq, decide_eq_false_iff_not, Bool.or_eq_true, Bool.and_eq_true, Bool.or_eq_false_iff, Bool.and_eq_false_iff, Bool.not_eq_true', Bool.not_eq_false', Int.not_lt, Int.not_le, ne_eq, Decidable.not_not] at hg4_13
        refine wl_on (d := 33) H52 rfl rfl rfl ?_
        refine wl1 H52 (r_move rfl) rfl rfl rfl rfl fun a25 H66 => ?_
        clear H52 a24
        refine wl_on (d := 33) H66 rfl rfl rfl ?_
        refine wl1 H66 (r_move rfl) rfl rfl rfl rfl fun a26 H67 => ?_
        clear H66 a25
        refine wl_on (d := 33) H67 rfl rfl rfl ?_
        first | refine wl1 H67 (r_addk rfl rfl (by simp only [InK]; omega)) rfl rfl rfl rfl fun a27 H68 => ?_ | refine wl1 H67 (r_add rfl rfl) rfl rfl rfl rfl fun a27 H68 => ?_
        clear H67 a26
        rw [show ((at_ : Int) + 8) = ((at_ + 8 : Nat) : Int) by omega] at H68
        refine wl_on (d := 33) H68 rfl rfl rfl ?_
        refine wlc  H68 rfl rfl hb33 rfl (rword (at_ := at_ + 8) hN.sat hA (by omega)) fun v w6 hR a28 H69 => ?_
        clear H68 a27
        obtain ⟨rfl, gw6⟩ := hR
        have hN := hN.ofGr gw6
        replace hB6 := hB6.gr gw6
        refine wl_on (d := 33) H69 rfl rfl rfl ?_
        refine wl1 H69 (r_move rfl) rfl rfl rfl rfl fun a29 H70 => ?_
        clear H69 a28
        refine wl_on (d := 33) H70 rfl rfl rfl ?_
        refine wl1 H70 (r_move rfl) rfl rfl rfl rfl fun a30 H71 => ?_
        clear H70 a29
        refine wl_on (d := 33) H71 rfl rfl rfl ?_
        first | refine wl1 H71 (r_convk Try.underlying32 Try.underlying3 rfl (by simp only [InK]; omega)) rfl rfl rfl rfl fun a31 H72 => ?_ | refine wl1 H71 (r_conv Try.underlying32 Try.underlying3 rfl) rfl rfl rfl rfl fun a31 H72 => ?_
        clear H71 a30
        refine wl_on (d := 33) H72 rfl rfl rfl ?_
        refine s_lit1 (cs := [_]) H72 Try.underlying29 sz3 zv3 rfl rfl rfl (by simp [Value.oneCell']) rfl hN fun w7 l41 K7 hKl41 hlel41 hN nw7 hgel41 a32 H73 => ?_
        clear H72 a31
        replace hA := hA.up nw7.le
        replace hB6 := hB6.next nw7
        have hE41 : Els (kInt .i64) K7 (some ⟨l41, 0, none⟩) [(jn (l.drop at_) : Int)] := Els.nums hKl41 (by simp) (by simp only [List.mem_singleton, InK]; rintro x rfl; omega)
        refine wl_on (d := 33) H73 rfl rfl rfl ?_
        refine wlc  H73 rfl rfl hb34 rfl (rtag hN.sat hE41 rfl) fun v w8 hR a33 H74 => ?_
        clear H73 a32
        obtain ⟨rfl, gw8⟩ := hR
        have hN := hN.ofGr gw8
        replace hB6 := hB6.gr gw8
        refine wl_on (d := 33) H74 rfl rfl rfl ?_
        refine wl1 H74 (r_neq rfl rfl) rfl rfl rfl rfl fun a34 H75 => ?_
        clear H74 a33
        refine wl1 H75 (r_pick_f rfl rfl) rfl rfl rfl rfl fun a35 H76 => ?_
        clear H75 a34
        refine wl_end ?_
        refine th_n ?_
        first | refine w_if H76 rfl (fun hc44 => ?_) (fun hc44 => ?_) | refine w_cond H76 rfl (fun hc44 => ?_) (fun hc44 => ?_)
        ·
          try simp only [decide_eq_true_eq, decide_eq_false_iff_not, Bool.or_eq_true, Bool.and_eq_true, Bool.or_eq_false_iff, Bool.and_eq_false_iff, Bool.not_eq_true', Bool.not_eq_false', Int.not_lt, Int.not_le, ne_eq, Decidable.not_not] at hc44
          refine wpIn_seq ?_
          refine w_reg ?_
          refine wl1 H76 (r_build (v := .agg #[.slice none 0 0, .int .u64 0, .int .i64 0, .bool false]) rfl (fun w => by kernel_rfl)) rfl rfl rfl rfl fun a36 H77 => ?_
          clear H76 a35
          refine s_storeA (vs := [_, _, _, _]) H77 sz55 (by simp) (by simp [Value.oneCell']) rfl rfl hN hB6 (by simp) hgeb6 fun w9 hN hB6 ew9 H78 => ?_
          clear H77
          simp only [Nat.zero_add, Nat.add_zero, Nat.reduceAdd, Nat.reduceMul, List.set_cons_zero, List.set_cons_succ, spliceL] at hB6
          clear ew9
          refine wl_end ?_
          refine th_n ?_
          refine wpIn_ret ?_
          refine th_r ?_
          refine fin_r H78 (resC rfl H78 rfl hB6 ag55) ?_
          exact ⟨K7, hN, .inl ⟨(fun h => by have h2 := h.head; rw [wordAt_drop, wordAt_drop, show at_ + 0 = at_ from rfl, hjn] at h2; exact hc44 h2), rfl⟩⟩
        ·
          try simp only [decide_eq_true_eq, decide_eq_false_iff_not, Bool.or_eq_true, Bool.and_eq_true, Bool.or_eq_false_iff, Bool.and_eq_false_iff, Bool.not_eq_true', Bool.not_eq_false', Int.not_lt, Int.not_le, ne_eq, Decidable.not_not] at hc44
          refine wpIn_skip ?_
          refine th_n ?_
          refine wpIn_seq ?_
          refine w_reg ?_
          refine s_lit1 (cs := []) H76 Try.underlying29 sz3 zv3 rfl rfl rfl (by simp [Value.oneCell']) rfl hN fun w10 l46 K10 hKl46 hlel46 hN nw10 hgel46 a36 H79 => ?_
          clear H76 a35
          replace hA := hA.up nw10.le
          replace hB6 := hB6.next nw10
          refine wl1 H79 (r_assign rfl) rfl rfl rfl rfl fun a37 H80 => ?_
          clear H79 a36
          obtain ⟨B, hBw⟩ : ∃ B, B = (w10).heap.size := ⟨_, rfl⟩
          have hlt6 := hB6.lt
          refine wl_end ?_
          refine th_n ?_
          refine wpIn_seq ?_
          refine wpIn_seq ?_
          refine w_reg ?_
          refine wl1 H80 (r_assign rfl) rfl rfl rfl rfl fun a38 H81 => ?_
          clear H80 a37
          refine wl_end ?_
          refine th_n ?_
          refine wpIn_block ?_
          refine w_loop (ι := (Nat × Value) × Im) (fun xJ => (fun x => [(9, .int .i64 (x.1 : Int)), (8, x.2)]) xJ.1) (fun xJ W => Im.le K10 xJ.2 ∧ New I w xJ.2 W ∧ (fun x (J : Im) => x.1 ≤ jn (l.drop at_) ∧ B ≤ W.heap.size ∧ Box J W b6 [.slice none 0 0, .int .u64 0, .int .i64 0, .bool false] 55 ∧ Apx (kInt .i64) J W B 3 x.2 ((recAt (l.drop at_) (jn (l.drop at_))).take x.1)) xJ.1 xJ.2) (fun xJ => (fun x => jn (l.drop at_) - x.1) xJ.1) (l0 := [(0, _), (1, _), (2, _), (6, _), (7, _)]) ((0, _), K10) H81 ⟨rfl, rfl, rfl, rfl, rfl, rfl, rfl, trivial⟩ ⟨Im.le.refl _, hN, Nat.zero_le _, (by show B ≤ _; omega), hB6, .inr ⟨_, rfl, Els.nil _ _ _⟩⟩ ?_
          rintro ⟨⟨k, u⟩, J11⟩ a39 w11 H82 ⟨hleJ1, hN, hk, hszB, hB6, hO⟩
          clear H81 a38
          simp only [List.cons_append, List.nil_append] at H82
          try dsimp only at hleJ1
          try dsimp only at hN
          replace hA := hA.up hleJ1
          simp only at hk hO H82
          try dsimp only at hB6
          try dsimp only at hO
          try dsimp only at hk
          try dsimp only at hszB
          refine wpIn_seq ?_
          refine wpIn_seq ?_
          refine w_reg ?_
          refine wl1 H82 (r_move rfl) rfl rfl rfl rfl fun a40 H83 => ?_
          clear H82 a39
          refine wl1 H83 (r_move rfl) rfl rfl rfl rfl fun a41 H84 => ?_
          clear H83 a40
          first | refine wl1 H84 (r_convk Try.underlying32 Try.underlying3 rfl (by simp only [InK]; omega)) rfl rfl rfl rfl fun a42 H85 => ?_ | refine wl1 H84 (r_conv Try.underlying32 Try.underlying3 rfl) rfl rfl rfl rfl fun a42 H85 => ?_
          clear H84 a41
          refine wl1 H85 (r_lss rfl rfl) rfl rfl rfl rfl fun a43 H86 => ?_
          clear H85 a42
          refine wl_end ?_
          refine th_n ?_
          first | refine w_if H86 rfl (fun hc50 => ?_) (fun hc50 => ?_) | refine w_cond H86 rfl (fun hc50 => ?_) (fun hc50 => ?_)
          ·
            try simp only [decide_eq_true_eq, decide_eq_false_iff_not, Bool.or_eq_true, Bool.and_eq_true, Bool.or_eq_false_iff, Bool.and_eq_false_iff, Bool.not_eq_true', Bool.not_eq_false', Int.not_lt, Int.not_le, ne_eq, Decidable.not_not] at hc50
            refine wpIn_skip ?_
            refine th_n ?_
            refine wpIn_seq ?_
            refine wpIn_block ?_
            refine w_reg ?_
            refine wl1 H86 (r_move rfl) rfl rfl rfl rfl fun a44 H87 => ?_
            clear H86 a43
            refine wl1 H87 (r_move rfl) rfl rfl rfl rfl fun a45 H88 => ?_
            clear H87 a44
            refine wl1 H88 (r_move rfl) rfl rfl rfl rfl fun a46 H89 => ?_
            clear H88 a45
            first | refine wl1 H89 (r_addk rfl rfl (by simp only [InK]; omega)) rfl rfl rfl rfl fun a47 H90 => ?_ | refine wl1 H89 (r_add rfl rfl) rfl rfl rfl rfl fun a47 H90 => ?_
            clear H89 a46
            refine wl1 H90 (r_move rfl) rfl rfl rfl rfl fun a48 H91 => ?_
            clear H90 a47
            first | refine wl1 H91 (r_mulk rfl rfl (by simp only [InK]; omega)) rfl rfl rfl rfl fun a49 H92 => ?_ | refine wl1 H91 (r_mul rfl rfl) rfl rfl rfl rfl fun a49 H92 => ?_
            clear H91 a48
            first | refine wl1 H92 (r_addk rfl rfl (by simp only [InK]; omega)) rfl rfl rfl rfl fun a50 H93 => ?_ | refine wl1 H92 (r_add rfl rfl) rfl rfl rfl rfl fun a50 H93 => ?_
            clear H92 a49
            rw [show ((at_ : Int) + 16 + 8 * (k : Int)) = ((at_ + (16 + 8 * k) : Nat) : Int) by omega] at H93
            refine wlc  H93 rfl rfl hb33 rfl (rword (at_ := at_ + (16 + 8 * k)) hN.sat hA (by omega)) fun v w12 hR a51 H94 => ?_
            clear H93 a50
            obtain ⟨rfl, gw12⟩ := hR
            have hN := hN.ofGr gw12
            replace hB6 := hB6.gr gw12
            replace hO := hO.gr gw12
            replace hszB := Nat.le_trans hszB gw12.size
            rw [← wordAt_drop] at H94
            refine wl1 H94 (r_conv Try.underlying32 Try.underlying3 rfl) rfl rfl rfl rfl fun a52 H95 => ?_
            clear H94 a51
            refine s_lit1 (cs := [_]) H95 Try.underlying29 sz3 zv3 rfl rfl rfl (by simp [Value.oneCell']) rfl hN fun w13 l62 K13 hKl62 hlel62 hN nw13 hgel62 a53 H96 => ?_
            clear H95 a52
            replace hA := hA.up nw13.le
            replace hB6 := hB6.next nw13
            replace hO := hO.next nw13
            replace hleJ1 := hleJ1.trans nw13.le
            replace hszB := Nat.le_trans hszB nw13.gr.size
            have hE62 : Els (kInt .i64) K13 (some ⟨l62, 0, none⟩) [IntKind.i64.wrap (wordAt (l.drop at_) (16 + 8 * k))] := Els.nums hKl62 (by simp) (by simp only [List.mem_singleton]; rintro x rfl; exact inK_wrap _ _)
            refine s_app (B := B) H96 rfl rfl Try.underlying29 nf3 rfl (by decide) (by decide) rfl hN hO hE62 rfl (by omega) hszB (by simp only [List.length_take, recAt_length]; omega) fun vw14 w14 hO hOO hOO2 kw14 hN a54 H97 => ?_
            clear H96 a53
            replace hB6 := hB6.keep kw14 (by omega)
            replace hszB := Nat.le_trans hszB kw14.size
            rw [← recAt_succ _ _ _ (by omega)] at hO
            refine wl1 H97 (r_assign rfl) rfl rfl rfl rfl fun a55 H98 => ?_
            clear H97 a54
            refine wl_end ?_
            refine bl_n ?_
            refine th_n ?_
            refine w_reg ?_
            refine wl1 H98 (r_move rfl) rfl rfl rfl rfl fun a56 H99 => ?_
            clear H98 a55
            first | refine wl1 H99 (r_addk rfl rfl (by simp only [InK]; omega)) rfl rfl rfl rfl fun a57 H100 => ?_ | refine wl1 H99 (r_add rfl rfl) rfl rfl rfl rfl fun a57 H100 => ?_
            clear H99 a56
            refine wl1 H100 (r_assign rfl) rfl rfl rfl rfl fun a58 H101 => ?_
            clear H100 a57
            refine wl_end ?_
            exact th_n ⟨((k + 1, _), K13), (by show jn (l.drop at_) - (k + 1) < jn (l.drop at_) - k; omega), H101.sub ⟨rfl, rfl, rfl, rfl, rfl, rfl, rfl, trivial⟩, hleJ1, hN, by show k + 1 ≤ jn (l.drop at_); omega, hszB, hB6, hO⟩
          ·
            try simp only [decide_eq_true_eq, decide_eq_false_iff_not, Bool.or_eq_true, Bool.and_eq_true, Bool.or_eq_false_iff, Bool.and_eq_false_iff, Bool.not_eq_true', Bool.not_eq_false', Int.not_lt, Int.not_le, ne_eq, Decidable.not_not] at hc50
            refine wpIn_exit ?_
            refine th_x ?_
            refine th_x ?_
            refine bl_hit ?_
            refine th_n ?_
            refine wpIn_seq ?_
            refine w_reg ?_
            refine wl1 H86 (r_move rfl) rfl rfl rfl rfl fun a44 H102 => ?_
            clear H86 a43
            first | refine wl1 H102 (r_addk rfl rfl (by simp only [InK]; omega)) rfl rfl rfl rfl fun a45 H103 => ?_ | refine wl1 H102 (r_add rfl rfl) rfl rfl rfl rfl fun a45 H103 => ?_
            clear H102 a44
            refine wl1 H103 (r_move rfl) rfl rfl rfl rfl fun a46 H104 => ?_
            clear H103 a45
            first | refine wl1 H104 (r_convk Try.underlying32 Try.underlying3 rfl (by simp only [InK]; omega)) rfl rfl rfl rfl fun a47 H105 => ?_ | refine wl1 H104 (r_conv Try.underlying32 Try.underlying3 rfl) rfl rfl rfl rfl fun a47 H105 => ?_
            clear H104 a46
            first | refine wl1 H105 (r_mulk rfl rfl (by simp only [InK]; omega)) rfl rfl rfl rfl fun a48 H106 => ?_ | refine wl1 H105 (r_mul rfl rfl) rfl rfl rfl rfl fun a48 H106 => ?_
            clear H105 a47
            first | refine wl1 H106 (r_addk rfl rfl (by simp only [InK]; omega)) rfl rfl rfl rfl fun a49 H107 => ?_ | refine wl1 H106 (r_add rfl rfl) rfl rfl rfl rfl fun a49 H107 => ?_
            clear H106 a48
            rw [show ((at_ : Int) + 16 + 8 * (jn (l.drop at_) : Int)) = ((at_ + (16 + 8 * jn (l.drop at_)) : Nat) : Int) by omega] at H107
            refine wl1 H107 (r_assign rfl) rfl rfl rfl rfl fun a50 H108 => ?_
            clear H107 a49
            refine wl_end ?_
            refine th_n ?_
            refine wpIn_seq ?_
            refine wpIn_seq ?_
            refine w_reg ?_
            refine wl1 H108 (r_move rfl) rfl rfl rfl rfl fun a51 H109 => ?_
            clear H108 a50
            refine wl1 H109 (r_move rfl) rfl rfl rfl rfl fun a52 H110 => ?_
            clear H109 a51
            refine wlc  H110 rfl rfl hb33 rfl (rword hN.sat hA (by omega)) fun v w15 hR a53 H111 => ?_
            clear H110 a52
            obtain ⟨rfl, gw15⟩ := hR
            have hN := hN.ofGr gw15
            replace hB6 := hB6.gr gw15
            replace hO := hO.gr gw15
            replace hszB := Nat.le_trans hszB gw15.size
            rw [← wordAt_drop] at H111
            refine wl1 H111 (r_move rfl) rfl rfl rfl rfl fun a54 H112 => ?_
            clear H111 a53
            refine wl1 H112 (r_move rfl) rfl rfl rfl rfl fun a55 H113 => ?_
            clear H112 a54
            rw [show k = jn (l.drop at_) by omega, List.take_of_length_le (by rw [recAt_length]; omega)] at hO
            obtain ⟨J9, A9, c9, hN, hle9, hB9, rfl, hc9, hE9⟩ := hO.freeze hN (by omega)
            replace hA := hA.up hle9
            have hB6 : Box J9 w15 b6 _ 55 := ⟨hB6.blk, by rw [hB9 _ (by omega)]; exact hB6.im⟩
            refine wlc  H113 rfl rfl hb34 rfl (rtag hN.sat hE9 rfl) fun v w16 hR a56 H114 => ?_
            clear H113 a55
            obtain ⟨rfl, gw16⟩ := hR
            have hN := hN.ofGr gw16
            replace hB6 := hB6.gr gw16
            replace hszB := Nat.le_trans hszB gw16.size
            refine wl1 H114 (r_neq rfl rfl) rfl rfl rfl rfl fun a57 H115 => ?_
            clear H114 a56
            refine wl_end ?_
            refine th_n ?_
            first | refine w_if H115 rfl (fun hc76 => ?_) (fun hc76 => ?_) | refine w_cond H115 rfl (fun hc76 => ?_) (fun hc76 => ?_)
            ·
              try simp only [decide_eq_true_eq, decide_eq_false_iff_not, Bool.or_eq_true, Bool.and_eq_true, Bool.or_eq_false_iff, Bool.and_eq_false_iff, Bool.not_eq_true', Bool.not_eq_false', Int.not_lt, Int.not_le, ne_eq, Decidable.not_not] at hc76
              refine wpIn_seq ?_
              refine w_reg ?_
              refine wl1 H115 (r_build (v := .agg #[.slice none 0 0, .int .u64 0, .int .i64 0, .bool false]) rfl (fun w => by kernel_rfl)) rfl rfl rfl rfl fun a58 H116 => ?_
              clear H115 a57
              refine s_storeA (vs := [_, _, _, _]) H116 sz55 (by simp) (by simp [Value.oneCell']) rfl rfl hN hB6 (by simp) hgeb6 fun w17 hN hB6 ew17 H117 => ?_
              clear H116
              replace hszB := sz_setB ew17 hszB
              simp only [Nat.zero_add, Nat.add_zero, Nat.reduceAdd, Nat.reduceMul, List.set_cons_zero, List.set_cons_succ, spliceL] at hB6
              clear ew17
              refine wl_end ?_
              refine th_n ?_
              refine wpIn_ret ?_
              refine th_r ?_
              refine fin_r H117 (resC rfl H117 rfl hB6 ag55) ?_
              exact ⟨J9, hN, .inl ⟨(fun h => by exact hc76 h.sl), rfl⟩⟩
            ·
              try simp only [decide_eq_true_eq, decide_eq_false_iff_not, Bool.or_eq_true, Bool.and_eq_true, Bool.or_eq_false_iff, Bool.and_eq_false_iff, Bool.not_eq_true', Bool.not_eq_false', Int.not_lt, Int.not_le, ne_eq, Decidable.not_not] at hc76
              refine wpIn_skip ?_
              refine th_n ?_
              refine wpIn_seq ?_
              refine w_reg ?_
              refine wl1 H115 (r_move rfl) rfl rfl rfl rfl fun a58 H118 => ?_
              clear H115 a57
              refine wl1 H118 (r_move rfl) rfl rfl rfl rfl fun a59 H119 => ?_
              clear H118 a58
              refine wl1 H119 (r_move rfl) rfl rfl rfl rfl fun a60 H120 => ?_
              clear H119 a59
              refine wlc  H120 rfl rfl hb33 rfl (rword hN.sat hA (by omega)) fun v w18 hR a61 H121 => ?_
              clear H120 a60
              obtain ⟨rfl, gw18⟩ := hR
              have hN := hN.ofGr gw18
              replace hB6 := hB6.gr gw18
              replace hszB := Nat.le_trans hszB gw18.size
              rw [← wordAt_drop] at H121
              refine wl1 H121 (r_move rfl) rfl rfl rfl rfl fun a62 H122 => ?_
              clear H121 a61
              first | refine wl1 H122 (r_addk rfl rfl (by simp only [InK]; omega)) rfl rfl rfl rfl fun a63 H123 => ?_ | refine wl1 H122 (r_add rfl rfl) rfl rfl rfl rfl fun a63 H123 => ?_
              clear H122 a62
              rw [show (((at_ + (16 + 8 * jn (l.drop at_)) : Nat) : Int) + 8) = ((at_ + (24 + 8 * jn (l.drop at_)) : Nat) : Int) by omega] at H123
              refine wl1 H123 (r_build (v := .agg #[.slice A9 (recAt (l.drop at_) (jn (l.drop at_))).length c9, .int .u64 (wordAt (l.drop at_) (16 + 8 * jn (l.drop at_))), .int .i64 ((at_ + (24 + 8 * jn (l.drop at_)) : Nat) : Int), .bool true]) rfl (fun w => by kernel_rfl)) rfl rfl rfl rfl fun a64 H124 => ?_
              clear H123 a63
              refine s_storeA (vs := [_, _, _, _]) H124 sz55 (by simp) (by simp [Value.oneCell']) rfl rfl hN hB6 (by simp) hgeb6 fun w19 hN hB6 ew19 H125 => ?_
              clear H124
              replace hszB := sz_setB ew19 hszB
              simp only [Nat.zero_add, Nat.add_zero, Nat.reduceAdd, Nat.reduceMul, List.set_cons_zero, List.set_cons_succ, spliceL] at hB6
              clear ew19
              refine wl_end ?_
              refine th_n ?_
              refine wpIn_ret ?_
              refine fin_r H125 (resC rfl H125 rfl hB6 ag55) ?_
              exact ⟨J9, hN, .inr ⟨⟨by omega, by rw [wordAt_drop]; show wordAt l at_ ≤ _; omega, by omega, by rw [wordAt_drop, wordAt_drop]; show wordAt l (at_ + 8) = dtag key [wordAt l at_]; rw [hjn]; exact hc44, hc76⟩, A9, c9, by rw [recAt_length] at hc9; exact hc9, hE9, rfl⟩⟩
end Go.Proofs.Yteinlgobadlgnaa
