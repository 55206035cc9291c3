/- The fixed examples; what is small. -/
import Derived.Test.YtjjpaghloaggeaaTrG
import Derived.Test.YtjjpaghloaggeaaTag
import Derived.Test.YtjjpaghloaggeaaDrawS
set_option linter.unusedVariables false
set_option linter.unusedSimpArgs false
namespace Go.Proofs.Ytjjpaghloaggeaa
open Go.RowKit

set_option maxRecDepth 100000 in
set_option maxHeartbeats 400000 in
theorem lsmall {A1 A2 : Option Addr} {c1 c2 : Nat} {x : Lk} {p : Pk} {D E : Option Addr} {cd ce : Nat} {d : List Int} {i : Int} {I : Im} {w : World} (hS : Sat I w) (hL : LkAt I x A1 c1 A2 c2) (hP : PkAt I p D cd) (hD : Els (kInt .u8) I E d) (hdc : d.length ≤ ce) :
    Ret Try.prog 11 [.agg #[.int .u64 x.key, .slice A1 x.out.length c1, .int .i64 x.base, .slice A2 x.inn.length c2, .int .i64 x.rcv, .int .i64 p.seq, .int .i64 p.ack, .slice D p.data.length cd, .int .u64 p.chk, .slice E d.length ce, .int .i64 i]] w (fun v w' => (∃ B, v = .bool B ∧ (B = true → p.data.length ≤ 300 ∧ d.length ≤ 300)) ∧ Gr w w') := by
  refine ret_of (N := 62) Try.func11 rfl rfl rfl fun a0 H0 => ?_
  have hN := New.refl hS
  simp only [argsEnv, Nat.zero_add, Nat.reduceAdd] at H0
  refine wpIn_seq ?_
  refine w_reg ?_
  refine s_box H0 rfl rfl hN fun w1 b1 hN gw1 hB1 hgeb1 heb1 a1 H1 => ?_
  clear H0 a0
  replace hB1 : Box _ _ _ [_, _, _, _, _, _, _, _, _, _, _] 30 := hB1
  refine wl1 H1 (r_assign rfl) rfl rfl rfl rfl fun a2 H2 => ?_
  clear H1 a1
  refine wl_end ?_
  refine th_n ?_
  refine wpIn_seq ?_
  refine wpIn_seq ?_
  refine w_reg ?_
  refine wl1 H2 (r_fld fld30_0 rfl) rfl rfl rfl rfl fun a3 H3 => ?_
  clear H2 a2
  refine wl1 H3 (r_fld fld26_1 rfl) rfl rfl rfl rfl fun a4 H4 => ?_
  clear H3 a3
  refine wl1 H4 (r_load sc24 rfl (hB1.cell rfl)) rfl rfl rfl rfl fun a5 H5 => ?_
  clear H4 a4
  refine wl1 H5 (r_len Try.underlying24 rfl) rfl rfl rfl rfl fun a6 H6 => ?_
  clear H5 a5
  refine wl1 H6 (r_gtr rfl rfl) rfl rfl rfl rfl fun a7 H7 => ?_
  clear H6 a6
  refine wl1 H7 (r_move rfl) rfl rfl rfl rfl fun a8 H8 => ?_
  clear H7 a7
  refine wl_split (t := 10) H8 rfl (fun hg1_5 H9 => ?_) (fun hg1_5 H9 => ?_)
  ·
    clear H8
    try simp only [decide_eq_true_eq, decide_eq_false_iff_not, Bool.or_eq_true, Bool.and_eq_true, Bool.or_eq_false_iff, Bool.and_eq_false_iff, Bool.not_eq_true', Bool.not_eq_false', Int.not_lt, Int.not_le, ne_eq, Decidable.not_not] at hg1_5
    refine wl_off (d := 10) H9 rfl rfl rfl rfl rfl rfl fun a9 H10 => ?_
    clear H9 a8
    refine wl_off (d := 10) H10 rfl rfl rfl rfl rfl rfl fun a10 H11 => ?_
    clear H10 a9
    refine wl_off (d := 10) H11 rfl rfl rfl rfl rfl rfl fun a11 H12 => ?_
    clear H11 a10
    refine wl_off (d := 10) H12 rfl rfl rfl rfl rfl rfl fun a12 H13 => ?_
    clear H12 a11
    refine wl_off (d := 10) H13 rfl rfl rfl rfl rfl rfl fun a13 H14 => ?_
    clear H13 a12
    refine wl1 H14 (r_pick_t rfl rfl) rfl rfl rfl rfl fun a14 H15 => ?_
    clear H14 a13
    refine wl1 H15 (r_move rfl) rfl rfl rfl rfl fun a15 H16 => ?_
    clear H15 a14
    refine wl_off (d := 17) H16 rfl rfl rfl rfl rfl rfl fun a16 H17 => ?_
    clear H16 a15
    refine wl_off (d := 17) H17 rfl rfl rfl rfl rfl rfl fun a17 H18 => ?_
    clear H17 a16
    refine wl_off (d := 17) H18 rfl rfl rfl rfl rfl rfl fun a18 H19 => ?_
    clear H18 a17
    refine wl_off (d := 17) H19 rfl rfl rfl rfl rfl rfl fun a19 H20 => ?_
    clear H19 a18
    refine wl_off (d := 17) H20 rfl rfl rfl rfl rfl rfl fun a20 H21 => ?_
    clear H20 a19
    refine wl1 H21 (r_pick_t rfl rfl) rfl rfl rfl rfl fun a21 H22 => ?_
    clear H21 a20
    refine wl1 H22 (r_move rfl) rfl rfl rfl rfl fun a22 H23 => ?_
    clear H22 a21
    refine wl_off (d := 24) H23 rfl rfl rfl rfl rfl rfl fun a23 H24 => ?_
    clear H23 a22
    refine wl_off (d := 24) H24 rfl rfl rfl rfl rfl rfl fun a24 H25 => ?_
    clear H24 a23
    refine wl_off (d := 24) H25 rfl rfl rfl rfl rfl rfl fun a25 H26 => ?_
    clear H25 a24
    refine wl_off (d := 24) H26 rfl rfl rfl rfl rfl rfl fun a26 H27 => ?_
    clear H26 a25
    refine wl1 H27 (r_pick_t rfl rfl) rfl rfl rfl rfl fun a27 H28 => ?_
    clear H27 a26
    refine wl_end ?_
    refine th_n ?_
    refine w_tt H28 rfl rfl ?_
    refine wpIn_seq ?_
    refine w_reg ?_
    refine wl1 H28 (r_assign rfl) rfl rfl rfl rfl fun a28 H29 => ?_
    clear H28 a27
    refine wl_end ?_
    refine th_n ?_
    refine wpIn_ret ?_
    refine th_r ?_
    refine fin_r H29 (res1 rfl H29 rfl) ?_
    exact ⟨⟨_, rfl, fun h => by first | (cases h; done) | (exact ⟨by omega, by omega⟩)⟩, hN.gr⟩
  ·
    clear H8
    try simp only [decide_eq_true_eq, decide_eq_false_iff_not, Bool.or_eq_true, Bool.and_eq_true, Bool.or_eq_false_iff, Bool.and_eq_false_iff, Bool.not_eq_true', Bool.not_eq_false', Int.not_lt, Int.not_le, ne_eq, Decidable.not_not] at hg1_5
    refine wl_on (d := 10) H9 rfl rfl rfl ?_
    refine wl1 H9 (r_fld fld30_0 rfl) rfl rfl rfl rfl fun a9 H30 => ?_
    clear H9 a8
    refine wl_on (d := 10) H30 rfl rfl rfl ?_
    refine wl1 H30 (r_fld fld26_3 rfl) rfl rfl rfl rfl fun a10 H31 => ?_
    clear H30 a9
    refine wl_on (d := 10) H31 rfl rfl rfl ?_
    refine wl1 H31 (r_load sc24 rfl (hB1.cell rfl)) rfl rfl rfl rfl fun a11 H32 => ?_
    clear H31 a10
    refine wl_on (d := 10) H32 rfl rfl rfl ?_
    refine wl1 H32 (r_len Try.underlying24 rfl) rfl rfl rfl rfl fun a12 H33 => ?_
    clear H32 a11
    refine wl_on (d := 10) H33 rfl rfl rfl ?_
    refine wl1 H33 (r_gtr rfl rfl) rfl rfl rfl rfl fun a13 H34 => ?_
    clear H33 a12
    refine wl1 H34 (r_pick_f rfl rfl) rfl rfl rfl rfl fun a14 H35 => ?_
    clear H34 a13
    refine wl1 H35 (r_move rfl) rfl rfl rfl rfl fun a15 H36 => ?_
    clear H35 a14
    refine wl_split (t := 17) H36 rfl (fun hg1_12 H37 => ?_) (fun hg1_12 H37 => ?_)
    ·
      clear H36
      try simp only [decide_eq_true_eq, decide_eq_false_iff_not, Bool.or_eq_true, Bool.and_eq_true, Bool.or_eq_false_iff, Bool.and_eq_false_iff, Bool.not_eq_true', Bool.not_eq_false', Int.not_lt, Int.not_le, ne_eq, Decidable.not_not] at hg1_12
      refine wl_off (d := 17) H37 rfl rfl rfl rfl rfl rfl fun a16 H38 => ?_
      clear H37 a15
      refine wl_off (d := 17) H38 rfl rfl rfl rfl rfl rfl fun a17 H39 => ?_
      clear H38 a16
      refine wl_off (d := 17) H39 rfl rfl rfl rfl rfl rfl fun a18 H40 => ?_
      clear H39 a17
      refine wl_off (d := 17) H40 rfl rfl rfl rfl rfl rfl fun a19 H41 => ?_
      clear H40 a18
      refine wl_off (d := 17) H41 rfl rfl rfl rfl rfl rfl fun a20 H42 => ?_
      clear H41 a19
      refine wl1 H42 (r_pick_t rfl rfl) rfl rfl rfl rfl fun a21 H43 => ?_
      clear H42 a20
      refine wl1 H43 (r_move rfl) rfl rfl rfl rfl fun a22 H44 => ?_
      clear H43 a21
      refine wl_off (d := 24) H44 rfl rfl rfl rfl rfl rfl fun a23 H45 => ?_
      clear H44 a22
      refine wl_off (d := 24) H45 rfl rfl rfl rfl rfl rfl fun a24 H46 => ?_
      clear H45 a23
      refine wl_off (d := 24) H46 rfl rfl rfl rfl rfl rfl fun a25 H47 => ?_
      clear H46 a24
      refine wl_off (d := 24) H47 rfl rfl rfl rfl rfl rfl fun a26 H48 => ?_
      clear H47 a25
      refine wl1 H48 (r_pick_t rfl rfl) rfl rfl rfl rfl fun a27 H49 => ?_
      clear H48 a26
      refine wl_end ?_
      refine th_n ?_
      refine w_tt H49 rfl rfl ?_
      refine wpIn_seq ?_
      refine w_reg ?_
      refine wl1 H49 (r_assign rfl) rfl rfl rfl rfl fun a28 H50 => ?_
      clear H49 a27
      refine wl_end ?_
      refine th_n ?_
      refine wpIn_ret ?_
      refine th_r ?_
      refine fin_r H50 (res1 rfl H50 rfl) ?_
      exact ⟨⟨_, rfl, fun h => by first | (cases h; done) | (exact ⟨by omega, by omega⟩)⟩, hN.gr⟩
    ·
      clear H36
      try simp only [decide_eq_true_eq, decide_eq_false_iff_not, Bool.or_eq_true, Bool.and_eq_true, Bool.or_eq_false_iff, Bool.and_eq_false_iff, Bool.not_eq_true', Bool.not_eq_false', Int.not_lt, Int.not_le, ne_eq, Decidable.not_not] at hg1_12
      refine wl_on (d := 17) H37 rfl rfl rfl ?_
      refine wl1 H37 (r_fld fld30_1 rfl) rfl rfl rfl rfl fun a16 H51 => ?_
      clear H37 a15
      refine wl_on (d := 17) H51 rfl rfl rfl ?_
      refine wl1 H51 (r_fld fld28_2 rfl) rfl rfl rfl rfl fun a17 H52 => ?_
      clear H51 a16
      refine wl_on (d := 17) H52 rfl rfl rfl ?_
      refine wl1 H52 (r_load sc23 rfl (hB1.cell rfl)) rfl rfl rfl rfl fun a18 H53 => ?_
      clear H52 a17
      refine wl_on (d := 17) H53 rfl rfl rfl ?_
      refine wl1 H53 (r_len Try.underlying23 rfl) rfl rfl rfl rfl fun a19 H54 => ?_
      clear H53 a18
      refine wl_on (d := 17) H54 rfl rfl rfl ?_
      refine wl1 H54 (r_gtr rfl rfl) rfl rfl rfl rfl fun a20 H55 => ?_
      clear H54 a19
      refine wl1 H55 (r_pick_f rfl rfl) rfl rfl rfl rfl fun a21 H56 => ?_
      clear H55 a20
      refine wl1 H56 (r_move rfl) rfl rfl rfl rfl fun a22 H57 => ?_
      clear H56 a21
      refine wl_split (t := 24) H57 rfl (fun hg1_19 H58 => ?_) (fun hg1_19 H58 => ?_)
      ·
        clear H57
        try simp only [decide_eq_true_eq, decide_eq_false_iff_not, Bool.or_eq_true, Bool.and_eq_true, Bool.or_eq_false_iff, Bool.and_eq_false_iff, Bool.not_eq_true', Bool.not_eq_false', Int.not_lt, Int.not_le, ne_eq, Decidable.not_not] at hg1_19
        refine wl_off (d := 24) H58 rfl rfl rfl rfl rfl rfl fun a23 H59 => ?_
        clear H58 a22
        refine wl_off (d := 24) H59 rfl rfl rfl rfl rfl rfl fun a24 H60 => ?_
        clear H59 a23
        refine wl_off (d := 24) H60 rfl rfl rfl rfl rfl rfl fun a25 H61 => ?_
        clear H60 a24
        refine wl_off (d := 24) H61 rfl rfl rfl rfl rfl rfl fun a26 H62 => ?_
        clear H61 a25
        refine wl1 H62 (r_pick_t rfl rfl) rfl rfl rfl rfl fun a27 H63 => ?_
        clear H62 a26
        refine wl_end ?_
        refine th_n ?_
        refine w_tt H63 rfl rfl ?_
        refine wpIn_seq ?_
        refine w_reg ?_
        refine wl1 H63 (r_assign rfl) rfl rfl rfl rfl fun a28 H64 => ?_
        clear H63 a27
        refine wl_end ?_
        refine th_n ?_
        refine wpIn_ret ?_
        refine th_r ?_
        refine fin_r H64 (res1 rfl H64 rfl) ?_
        exact ⟨⟨_, rfl, fun h => by first | (cases h; done) | (exact ⟨by omega, by omega⟩)⟩, hN.gr⟩
      ·
        clear H57
        try simp only [decide_eq_true_eq, decide_eq_false_iff_not, Bool.or_eq_true, Bool.and_eq_true, Bool.or_eq_false_iff, Bool.and_eq_false_iff, Bool.not_eq_true', Bool.not_eq_false', Int.not_lt, Int.not_le, ne_eq, Decidable.not_not] at hg1_19
        refine wl_on (d := 24) H58 rfl rfl rfl ?_
        refine wl1 H58 (r_fld fld30_2 rfl) rfl rfl rfl rfl fun a23 H65 => ?_
        clear H58 a22
        refine wl_on (d := 24) H65 rfl rfl rfl ?_
        refine wl1 H65 (r_load sc23 rfl (hB1.cell rfl)) rfl rfl rfl rfl fun a24 H66 => ?_
        clear H65 a23
        refine wl_on (d := 24) H66 rfl rfl rfl ?_
        refine wl1 H66 (r_len Try.underlying23 rfl) rfl rfl rfl rfl fun a25 H67 => ?_
        clear H66 a24
        refine wl_on (d := 24) H67 rfl rfl rfl ?_
        refine wl1 H67 (r_gtr rfl rfl) rfl rfl rfl rfl fun a26 H68 => ?_
        clear H67 a25
        refine wl1 H68 (r_pick_f rfl rfl) rfl rfl rfl rfl fun a27 H69 => ?_
        clear H68 a26
        refine wl_end ?_
        refine th_n ?_
        first | refine w_if H69 rfl (fun hc29 => ?_) (fun hc29 => ?_) | refine w_cond H69 rfl (fun hc29 => ?_) (fun hc29 => ?_)
        ·
          try simp only [decide_eq_true_eq, decide_eq_false_iff_not, Bool.or_eq_true, Bool.and_eq_true, Bool.or_eq_false_iff, Bool.and_eq_false_iff, Bool.not_eq_true', Bool.not_eq_false', Int.not_lt, Int.not_le, ne_eq, Decidable.not_not] at hc29
          refine wpIn_seq ?_
          refine w_reg ?_
          refine wl1 H69 (r_assign rfl) rfl rfl rfl rfl fun a28 H70 => ?_
          clear H69 a27
          refine wl_end ?_
          refine th_n ?_
          refine wpIn_ret ?_
          refine th_r ?_
          refine fin_r H70 (res1 rfl H70 rfl) ?_
          exact ⟨⟨_, rfl, fun h => by first | (cases h; done) | (exact ⟨by omega, by omega⟩)⟩, hN.gr⟩
        ·
          try simp only [decide_eq_true_eq, decide_eq_false_iff_not, Bool.or_eq_true, Bool.and_eq_true, Bool.or_eq_false_iff, Bool.and_eq_false_iff, Bool.not_eq_true', Bool.not_eq_false', Int.not_lt, Int.not_le, ne_eq, Decidable.not_not] at hc29
          refine wpIn_skip ?_
          refine th_n ?_
          refine wpIn_seq ?_
          refine wpIn_seq ?_
          refine w_reg ?_
          refine wl1 H69 (r_assign rfl) rfl rfl rfl rfl fun a28 H71 => ?_
          clear H69 a27
          refine wl_end ?_
          refine th_n ?_
          refine wpIn_block ?_
          refine w_loop (ι := Nat) (fun k => [(3, .int .i64 (k : Int))]) (fun k W => New I w I W ∧ (k ≤ x.out.length ∧ Box I W b1 [.int .u64 x.key, .slice A1 x.out.length c1, .int .i64 x.base, .slice A2 x.inn.length c2, .int .i64 x.rcv, .int .i64 p.seq, .int .i64 p.ack, .slice D p.data.length cd, .int .u64 p.chk, .slice E d.length ce, .int .i64 i] 30)) (fun k => x.out.length - k) (l0 := [(1, _)]) 0 H71 ⟨rfl, rfl, trivial⟩ ⟨hN, Nat.zero_le _, hB1⟩ ?_
          rintro k a29 w2 H72 ⟨hN, hk, hB1⟩
          clear H71 a28
          simp only [List.cons_append, List.nil_append] at H72
          refine wpIn_seq ?_
          refine wpIn_seq ?_
          refine w_reg ?_
          refine wl1 H72 (r_move rfl) rfl rfl rfl rfl fun a30 H73 => ?_
          clear H72 a29
          refine wl1 H73 (r_fld fld30_0 rfl) rfl rfl rfl rfl fun a31 H74 => ?_
          clear H73 a30
          refine wl1 H74 (r_fld fld26_1 rfl) rfl rfl rfl rfl fun a32 H75 => ?_
          clear H74 a31
          refine wl1 H75 (r_load sc24 rfl (hB1.cell rfl)) rfl rfl rfl rfl fun a33 H76 => ?_
          clear H75 a32
          refine wl1 H76 (r_len Try.underlying24 rfl) rfl rfl rfl rfl fun a34 H77 => ?_
          clear H76 a33
          refine wl1 H77 (r_lss rfl rfl) rfl rfl rfl rfl fun a35 H78 => ?_
          clear H77 a34
          refine wl_end ?_
          refine th_n ?_
          first | refine w_if H78 rfl (fun hc35 => ?_) (fun hc35 => ?_) | refine w_cond H78 rfl (fun hc35 => ?_) (fun hc35 => ?_)
          ·
            try simp only [decide_eq_true_eq, decide_eq_false_iff_not, Bool.or_eq_true, Bool.and_eq_true, Bool.or_eq_false_iff, Bool.and_eq_false_iff, Bool.not_eq_true', Bool.not_eq_false', Int.not_lt, Int.not_le, ne_eq, Decidable.not_not] at hc35
            have hkl : k < x.out.length := by omega
            obtain ⟨bA, oA, hAe⟩ := hL.oe.form (by omega)
            cases hAe
            obtain ⟨AA, cA, hcA, hlA, hEA⟩ := hL.oe.rowAt hkl
            refine wpIn_skip ?_
            refine th_n ?_
            refine wpIn_seq ?_
            refine wpIn_block ?_
            refine wpIn_seq ?_
            refine w_reg ?_
            refine wl1 H78 (r_fld fld30_0 rfl) rfl rfl rfl rfl fun a36 H79 => ?_
            clear H78 a35
            refine wl1 H79 (r_fld fld26_1 rfl) rfl rfl rfl rfl fun a37 H80 => ?_
            clear H79 a36
            refine wl1 H80 (r_load sc24 rfl (hB1.cell rfl)) rfl rfl rfl rfl fun a38 H81 => ?_
            clear H80 a37
            refine wl1 H81 (r_move rfl) rfl rfl rfl rfl fun a39 H82 => ?_
            clear H81 a38
            refine wl1 H82 (r_idx Try.underlying24 sz23 rfl rfl (i := k) rfl (by omega)) rfl rfl rfl rfl fun a40 H83 => ?_
            clear H82 a39
            refine wl1 H83 (r_load sc23 rfl (hN.sat.cell hcA)) rfl rfl rfl rfl fun a41 H84 => ?_
            clear H83 a40
            refine wl1 H84 (r_len Try.underlying23 rfl) rfl rfl rfl rfl fun a42 H85 => ?_
            clear H84 a41
            refine wl1 H85 (r_gtr rfl rfl) rfl rfl rfl rfl fun a43 H86 => ?_
            clear H85 a42
            refine wl_end ?_
            refine th_n ?_
            first | refine w_if H86 rfl (fun hc45 => ?_) (fun hc45 => ?_) | refine w_cond H86 rfl (fun hc45 => ?_) (fun hc45 => ?_)
            ·
              try simp only [decide_eq_true_eq, decide_eq_false_iff_not, Bool.or_eq_true, Bool.and_eq_true, Bool.or_eq_false_iff, Bool.and_eq_false_iff, Bool.not_eq_true', Bool.not_eq_false', Int.not_lt, Int.not_le, ne_eq, Decidable.not_not] at hc45
              refine wpIn_seq ?_
              refine w_reg ?_
              refine wl1 H86 (r_assign rfl) rfl rfl rfl rfl fun a44 H87 => ?_
              clear H86 a43
              refine wl_end ?_
              refine th_n ?_
              refine wpIn_ret ?_
              refine bl_r ?_
              refine th_r ?_
              refine th_r ?_
              refine bl_r ?_
              refine th_r ?_
              refine fin_r H87 (res1 rfl H87 rfl) ?_
              exact ⟨⟨_, rfl, fun h => by first | (cases h; done) | (exact ⟨by omega, by omega⟩)⟩, hN.gr⟩
            ·
              try simp only [decide_eq_true_eq, decide_eq_false_iff_not, Bool.or_eq_true, Bool.and_eq_true, Bool.or_eq_false_iff, Bool.and_eq_false_iff, Bool.not_eq_true', Bool.not_eq_false', Int.not_lt, Int.not_le, ne_eq, Decidable.not_not] at hc45
              refine wpIn_skip ?_
              refine bl_n ?_
              refine th_n ?_
              refine w_reg ?_
              refine wl1 H86 (r_move rfl) rfl rfl rfl rfl fun a44 H88 => ?_
              clear H86 a43
              first | refine wl1 H88 (r_addk rfl rfl (by simp only [InK]; omega)) rfl rfl rfl rfl fun a45 H89 => ?_ | refine wl1 H88 (r_add rfl rfl) rfl rfl rfl rfl fun a45 H89 => ?_
              clear H88 a44
              refine wl1 H89 (r_assign rfl) rfl rfl rfl rfl fun a46 H90 => ?_
              clear H89 a45
              refine wl_end ?_
              exact th_n ⟨k + 1, (by omega), H90.sub ⟨rfl, rfl, trivial⟩, hN, by omega, hB1⟩
          ·
            try simp only [decide_eq_true_eq, decide_eq_false_iff_not, Bool.or_eq_true, Bool.and_eq_true, Bool.or_eq_false_iff, Bool.and_eq_false_iff, Bool.not_eq_true', Bool.not_eq_false', Int.not_lt, Int.not_le, ne_eq, Decidable.not_not] at hc35
            refine wpIn_exit ?_
            refine th_x ?_
            refine th_x ?_
            refine bl_hit ?_
            refine th_n ?_
            refine wpIn_seq ?_
            refine wpIn_seq ?_
            refine w_reg ?_
            refine wl1 H78 (r_assign rfl) rfl rfl rfl rfl fun a36 H91 => ?_
            clear H78 a35
            refine wl_end ?_
            refine th_n ?_
            refine wpIn_block ?_
            refine w_loop (ι := Nat) (fun k => [(4, .int .i64 (k : Int))]) (fun k W => New I w I W ∧ (k ≤ x.inn.length ∧ Box I W b1 [.int .u64 x.key, .slice A1 x.out.length c1, .int .i64 x.base, .slice A2 x.inn.length c2, .int .i64 x.rcv, .int .i64 p.seq, .int .i64 p.ack, .slice D p.data.length cd, .int .u64 p.chk, .slice E d.length ce, .int .i64 i] 30)) (fun k => x.inn.length - k) (l0 := [(1, _)]) 0 H91 ⟨rfl, rfl, trivial⟩ ⟨hN, Nat.zero_le _, hB1⟩ ?_
            rintro k a37 w3 H92 ⟨hN, hk, hB1⟩
            clear H91 a36
            simp only [List.cons_append, List.nil_append] at H92
            refine wpIn_seq ?_
            refine wpIn_seq ?_
            refine w_reg ?_
            refine wl1 H92 (r_move rfl) rfl rfl rfl rfl fun a38 H93 => ?_
            clear H92 a37
            refine wl1 H93 (r_fld fld30_0 rfl) rfl rfl rfl rfl fun a39 H94 => ?_
            clear H93 a38
            refine wl1 H94 (r_fld fld26_3 rfl) rfl rfl rfl rfl fun a40 H95 => ?_
            clear H94 a39
            refine wl1 H95 (r_load sc24 rfl (hB1.cell rfl)) rfl rfl rfl rfl fun a41 H96 => ?_
            clear H95 a40
            refine wl1 H96 (r_len Try.underlying24 rfl) rfl rfl rfl rfl fun a42 H97 => ?_
            clear H96 a41
            refine wl1 H97 (r_lss rfl rfl) rfl rfl rfl rfl fun a43 H98 => ?_
            clear H97 a42
            refine wl_end ?_
            refine th_n ?_
            first | refine w_if H98 rfl (fun hc51 => ?_) (fun hc51 => ?_) | refine w_cond H98 rfl (fun hc51 => ?_) (fun hc51 => ?_)
            ·
              try simp only [decide_eq_true_eq, decide_eq_false_iff_not, Bool.or_eq_true, Bool.and_eq_true, Bool.or_eq_false_iff, Bool.and_eq_false_iff, Bool.not_eq_true', Bool.not_eq_false', Int.not_lt, Int.not_le, ne_eq, Decidable.not_not] at hc51
              have hkl : k < x.inn.length := by omega
              obtain ⟨bA, oA, hAe⟩ := hL.ie.form (by omega)
              cases hAe
              obtain ⟨AA, cA, hcA, hlA, hEA⟩ := hL.ie.rowAt hkl
              refine wpIn_skip ?_
              refine th_n ?_
              refine wpIn_seq ?_
              refine wpIn_block ?_
              refine wpIn_seq ?_
              refine w_reg ?_
              refine wl1 H98 (r_fld fld30_0 rfl) rfl rfl rfl rfl fun a44 H99 => ?_
              clear H98 a43
              refine wl1 H99 (r_fld fld26_3 rfl) rfl rfl rfl rfl fun a45 H100 => ?_
              clear H99 a44
              refine wl1 H100 (r_load sc24 rfl (hB1.cell rfl)) rfl rfl rfl rfl fun a46 H101 => ?_
              clear H100 a45
              refine wl1 H101 (r_move rfl) rfl rfl rfl rfl fun a47 H102 => ?_
              clear H101 a46
              refine wl1 H102 (r_idx Try.underlying24 sz23 rfl rfl (i := k) rfl (by omega)) rfl rfl rfl rfl fun a48 H103 => ?_
              clear H102 a47
              refine wl1 H103 (r_load sc23 rfl (hN.sat.cell hcA)) rfl rfl rfl rfl fun a49 H104 => ?_
              clear H103 a48
              refine wl1 H104 (r_len Try.underlying23 rfl) rfl rfl rfl rfl fun a50 H105 => ?_
              clear H104 a49
              refine wl1 H105 (r_gtr rfl rfl) rfl rfl rfl rfl fun a51 H106 => ?_
              clear H105 a50
              refine wl_end ?_
              refine th_n ?_
              first | refine w_if H106 rfl (fun hc61 => ?_) (fun hc61 => ?_) | refine w_cond H106 rfl (fun hc61 => ?_) (fun hc61 => ?_)
              ·
                try simp only [decide_eq_true_eq, decide_eq_false_iff_not, Bool.or_eq_true, Bool.and_eq_true, Bool.or_eq_false_iff, Bool.and_eq_false_iff, Bool.not_eq_true', Bool.not_eq_false', Int.not_lt, Int.not_le, ne_eq, Decidable.not_not] at hc61
                refine wpIn_seq ?_
                refine w_reg ?_
                refine wl1 H106 (r_assign rfl) rfl rfl rfl rfl fun a52 H107 => ?_
                clear H106 a51
                refine wl_end ?_
                refine th_n ?_
                refine wpIn_ret ?_
                refine bl_r ?_
                refine th_r ?_
                refine th_r ?_
                refine bl_r ?_
                refine th_r ?_
                refine fin_r H107 (res1 rfl H107 rfl) ?_
                exact ⟨⟨_, rfl, fun h => by first | (cases h; done) | (exact ⟨by omega, by omega⟩)⟩, hN.gr⟩
              ·
                try simp only [decide_eq_true_eq, decide_eq_false_iff_not, Bool.or_eq_true, Bool.and_eq_true, Bool.or_eq_false_iff, Bool.and_eq_false_iff, Bool.not_eq_true', Bool.not_eq_false', Int.not_lt, Int.not_le, ne_eq, Decidable.not_not] at hc61
                refine wpIn_skip ?_
                refine bl_n ?_
                refine th_n ?_
                refine w_reg ?_
                refine wl1 H106 (r_move rfl) rfl rfl rfl rfl fun a52 H108 => ?_
                clear H106 a51
                first | refine wl1 H108 (r_addk rfl rfl (by simp only [InK]; omega)) rfl rfl rfl rfl fun a53 H109 => ?_ | refine wl1 H108 (r_add rfl rfl) rfl rfl rfl rfl fun a53 H109 => ?_
                clear H108 a52
                refine wl1 H109 (r_assign rfl) rfl rfl rfl rfl fun a54 H110 => ?_
                clear H109 a53
                refine wl_end ?_
                exact th_n ⟨k + 1, (by omega), H110.sub ⟨rfl, rfl, trivial⟩, hN, by omega, hB1⟩
            ·
              try simp only [decide_eq_true_eq, decide_eq_false_iff_not, Bool.or_eq_true, Bool.and_eq_true, Bool.or_eq_false_iff, Bool.and_eq_false_iff, Bool.not_eq_true', Bool.not_eq_false', Int.not_lt, Int.not_le, ne_eq, Decidable.not_not] at hc51
              refine wpIn_exit ?_
              refine th_x ?_
              refine th_x ?_
              refine bl_hit ?_
              refine th_n ?_
              refine wpIn_seq ?_
              refine w_reg ?_
              refine wl1 H98 (r_assign rfl) rfl rfl rfl rfl fun a44 H111 => ?_
              clear H98 a43
              refine wl_end ?_
              refine th_n ?_
              refine wpIn_ret ?_
              refine fin_r H111 (res1 rfl H111 rfl) ?_
              exact ⟨⟨_, rfl, fun h => by first | (cases h; done) | (exact ⟨by omega, by omega⟩)⟩, hN.gr⟩
set_option maxRecDepth 100000 in
set_option maxHeartbeats 4000000 in
theorem lexamples  {I : Im} {w : World} (hS : Sat I w)  :
    Ret Try.prog 10 [] w (fun v w' => v = .bool true ∧ Gr w w') := by
  obtain ⟨va, vb, vs, vr, vc⟩ := ex_valid
  obtain ⟨hta, htb⟩ := ex_at I
  refine ret_of (N := 115) Try.func10 rfl rfl rfl fun a0 H0 => ?_
  have hN := New.refl hS
  simp only [argsEnv, Nat.zero_add, Nat.reduceAdd] at H0
  refine wpIn_seq ?_
  refine w_reg ?_
  refine wl1 H0 (r_assign rfl) rfl rfl rfl rfl fun a1 H1 => ?_
  clear H0 a0
  refine wl_end ?_
  refine th_n ?_
  refine wpIn_seq ?_
  refine w_reg ?_
  refine wlc  H1 rfl rfl hb13 rfl (pair_ret hN.sat) fun v w1 hR a2 H2 => ?_
  clear H1 a1
  obtain ⟨rfl, gw1⟩ := hR
  have hN := hN.ofGr gw1
  refine wl1 H2 (r_move rfl) rfl rfl rfl rfl fun a3 H3 => ?_
  clear H2 a2
  refine wl1 H3 (r_extract rfl rfl) rfl rfl rfl rfl fun a4 H4 => ?_
  clear H3 a3
  refine wl1 H4 (r_extract rfl rfl) rfl rfl rfl rfl fun a5 H5 => ?_
  clear H4 a4
  refine s_alloc H5 zv26 rfl hN fun w2 b1 hN gw2 hB1 hgeb1 heb1 a6 H6 => ?_
  clear H5 a5
  replace hB1 : Box _ _ _ [.int .u64 0, .slice none 0 0, .int .i64 0, .slice none 0 0, .int .i64 0] 26 := hB1
  refine s_alloc H6 zv26 rfl hN fun w3 b2 hN gw3 hB2 hgeb2 heb2 a7 H7 => ?_
  clear H6 a6
  replace hB2 : Box _ _ _ [.int .u64 0, .slice none 0 0, .int .i64 0, .slice none 0 0, .int .i64 0] 26 := hB2
  have hne_hB1_b2 := hB1.lt
  rw [← heb2] at hne_hB1_b2
  replace hB1 := hB1.gr gw3
  rw [key1_8] at H7
  refine s_storeA (vs := [_, _, _, _, _]) H7 sz26 (by simp) (by simp [Value.oneCell']) rfl rfl hN hB1 (by simp) hgeb1 fun w4 hN hB1 ew4 H8 => ?_
  clear H7
  replace hB2 := hB2.otherE ew4 (by omega)
  simp only [Nat.zero_add, Nat.add_zero, Nat.reduceAdd, Nat.reduceMul, List.set_cons_zero, List.set_cons_succ, spliceL] at hB1
  clear ew4
  refine s_storeA (vs := [_, _, _, _, _]) H8 sz26 (by simp) (by simp [Value.oneCell']) rfl rfl hN hB2 (by simp) hgeb2 fun w5 hN hB2 ew5 H9 => ?_
  clear H8
  replace hB1 := hB1.otherE ew5 (by omega)
  simp only [Nat.zero_add, Nat.add_zero, Nat.reduceAdd, Nat.reduceMul, List.set_cons_zero, List.set_cons_succ, spliceL] at hB2
  clear ew5
  refine wl_end ?_
  refine th_n ?_
  refine wpIn_seq ?_
  refine w_reg ?_
  refine wl1 H9 (r_loadA (cs := [_, _, _, _, _]) ag26 rfl hB1.agg) rfl rfl rfl rfl fun a8 H10 => ?_
  clear H9 a7
  refine s_lit1 (cs := [_]) H10 Try.underlying23 sz5 zv5 rfl rfl rfl (by simp [Value.oneCell']) rfl hN fun w6 l13 K6 hKl13 hlel13 hN nw6 hgel13 a9 H11 => ?_
  clear H10 a8
  replace hta := hta.up nw6.le
  replace htb := htb.up nw6.le
  replace hB1 := hB1.next nw6
  replace hB2 := hB2.next nw6
  have hE13 : Els (kInt .u8) K6 (some ⟨l13, 0, none⟩) [7] := Els.nums (xs := [7]) hKl13 (by simp) (by simp [InK])
  refine wlc  H11 rfl rfl hb23 rfl ((by have h := lsent_ret (x := exA) (d := [7]) hN.sat hta va hE13 (Nat.le_refl _); rw [ex_s.1, ex_s.2] at h; exact h)) fun v w7 hR a10 H12 => ?_
  clear H11 a9
  obtain ⟨J7, nw7, ⟨A3, c3, A4, c4, rfl, hs⟩⟩ := hR
  replace hta := hta.up nw7.le
  replace htb := htb.up nw7.le
  replace hE13 := hE13.up nw7.le
  replace hB1 := hB1.next nw7
  replace hB2 := hB2.next nw7
  have hN := hN.trans nw7
  refine s_alloc H12 zv48 rfl hN fun w8 b3 hN gw8 hB3 hgeb3 heb3 a11 H13 => ?_
  clear H12 a10
  replace hB3 : Box _ _ _ [.int .u64 0, .slice none 0 0, .int .i64 0, .slice none 0 0, .int .i64 0, .int .i64 0] 48 := hB3
  have hne_hB1_b3 := hB1.lt
  rw [← heb3] at hne_hB1_b3
  have hne_hB2_b3 := hB2.lt
  rw [← heb3] at hne_hB2_b3
  replace hB1 := hB1.gr gw8
  replace hB2 := hB2.gr gw8
  refine s_storeA (vs := [_, _, _, _, _, _]) H13 sz48 (by simp) (by simp [Value.oneCell']) rfl rfl hN hB3 (by simp) hgeb3 fun w9 hN hB3 ew9 H14 => ?_
  clear H13
  replace hB1 := hB1.otherE ew9 (by omega)
  replace hB2 := hB2.otherE ew9 (by omega)
  simp only [Nat.zero_add, Nat.add_zero, Nat.reduceAdd, Nat.reduceMul, List.set_cons_zero, List.set_cons_succ, spliceL] at hB3
  clear ew9
  refine wl_end ?_
  refine th_n ?_
  refine wpIn_seq ?_
  refine w_reg ?_
  refine wl1 H14 (r_fld fld48_0 rfl) rfl rfl rfl rfl fun a12 H15 => ?_
  clear H14 a11
  refine wl1 H15 (Box.loadO ag26 rfl hB3 (by simp)) rfl rfl rfl rfl fun a13 H16 => ?_
  clear H15 a12
  refine wlc  H16 rfl rfl hb20 rfl ((by have h := lpacket_ret (x := exS) (i := 0) hN.sat hs vs (by simp [InK]); rw [ex_p.1, ex_p.2] at h; exact h)) fun v w10 hR a14 H17 => ?_
  clear H16 a13
  obtain ⟨J10, nw10, ⟨A5, c5, rfl, hp⟩⟩ := hR
  replace hta := hta.up nw10.le
  replace htb := htb.up nw10.le
  replace hE13 := hE13.up nw10.le
  replace hs := hs.up nw10.le
  replace hB1 := hB1.next nw10
  replace hB2 := hB2.next nw10
  replace hB3 := hB3.next nw10
  have hN := hN.trans nw10
  refine s_alloc H17 zv44 rfl hN fun w11 b4 hN gw11 hB4 hgeb4 heb4 a15 H18 => ?_
  clear H17 a14
  replace hB4 : Box _ _ _ [.int .i64 0, .int .i64 0, .slice none 0 0, .int .u64 0, .int .i64 0] 44 := hB4
  have hne_hB1_b4 := hB1.lt
  rw [← heb4] at hne_hB1_b4
  have hne_hB2_b4 := hB2.lt
  rw [← heb4] at hne_hB2_b4
  have hne_hB3_b4 := hB3.lt
  rw [← heb4] at hne_hB3_b4
  replace hB1 := hB1.gr gw11
  replace hB2 := hB2.gr gw11
  replace hB3 := hB3.gr gw11
  refine s_storeA (vs := [_, _, _, _, _]) H18 sz44 (by simp) (by simp [Value.oneCell']) rfl rfl hN hB4 (by simp) hgeb4 fun w12 hN hB4 ew12 H19 => ?_
  clear H18
  replace hB1 := hB1.otherE ew12 (by omega)
  replace hB2 := hB2.otherE ew12 (by omega)
  replace hB3 := hB3.otherE ew12 (by omega)
  simp only [Nat.zero_add, Nat.add_zero, Nat.reduceAdd, Nat.reduceMul, List.set_cons_zero, List.set_cons_succ, spliceL] at hB4
  clear ew12
  refine wl_end ?_
  refine th_n ?_
  refine wpIn_seq ?_
  refine w_reg ?_
  refine wl1 H19 (r_loadA (cs := [_, _, _, _, _]) ag26 rfl hB2.agg) rfl rfl rfl rfl fun a16 H20 => ?_
  clear H19 a15
  refine wl1 H20 (r_fld fld44_0 rfl) rfl rfl rfl rfl fun a17 H21 => ?_
  clear H20 a16
  refine wl1 H21 (Box.loadO ag28 rfl hB4 (by simp)) rfl rfl rfl rfl fun a18 H22 => ?_
  clear H21 a17
  refine wlc  H22 rfl rfl hb25 rfl ((by have h := lreceived_ret (x := exB) (p := exP) hN.sat htb vb hp; rw [ex_r.1, ex_r.2] at h; exact h)) fun v w13 hR a19 H23 => ?_
  clear H22 a18
  obtain ⟨J13, nw13, ⟨A6, c6, A7, c7, rfl, hr⟩⟩ := hR
  replace hta := hta.up nw13.le
  replace htb := htb.up nw13.le
  replace hE13 := hE13.up nw13.le
  replace hs := hs.up nw13.le
  replace hp := hp.up nw13.le
  replace hB1 := hB1.next nw13
  replace hB2 := hB2.next nw13
  replace hB3 := hB3.next nw13
  replace hB4 := hB4.next nw13
  have hN := hN.trans nw13
  refine s_alloc H23 zv48 rfl hN fun w14 b5 hN gw14 hB5 hgeb5 heb5 a20 H24 => ?_
  clear H23 a19
  replace hB5 : Box _ _ _ [.int .u64 0, .slice none 0 0, .int .i64 0, .slice none 0 0, .int .i64 0, .int .i64 0] 48 := hB5
  have hne_hB1_b5 := hB1.lt
  rw [← heb5] at hne_hB1_b5
  have hne_hB2_b5 := hB2.lt
  rw [← heb5] at hne_hB2_b5
  have hne_hB3_b5 := hB3.lt
  rw [← heb5] at hne_hB3_b5
  have hne_hB4_b5 := hB4.lt
  rw [← heb5] at hne_hB4_b5
  replace hB1 := hB1.gr gw14
  replace hB2 := hB2.gr gw14
  replace hB3 := hB3.gr gw14
  replace hB4 := hB4.gr gw14
  refine s_storeA (vs := [_, _, _, _, _, _]) H24 sz48 (by simp) (by simp [Value.oneCell']) rfl rfl hN hB5 (by simp) hgeb5 fun w15 hN hB5 ew15 H25 => ?_
  clear H24
  replace hB1 := hB1.otherE ew15 (by omega)
  replace hB2 := hB2.otherE ew15 (by omega)
  replace hB3 := hB3.otherE ew15 (by omega)
  replace hB4 := hB4.otherE ew15 (by omega)
  simp only [Nat.zero_add, Nat.add_zero, Nat.reduceAdd, Nat.reduceMul, List.set_cons_zero, List.set_cons_succ, spliceL] at hB5
  clear ew15
  refine wl_end ?_
  refine th_n ?_
  refine wpIn_seq ?_
  refine w_reg ?_
  refine wl1 H25 (r_fld fld48_0 rfl) rfl rfl rfl rfl fun a21 H26 => ?_
  clear H25 a20
  refine wl1 H26 (Box.loadO ag26 rfl hB5 (by simp)) rfl rfl rfl rfl fun a22 H27 => ?_
  clear H26 a21
  refine wlc  H27 rfl rfl hb29 rfl ((by have h := ack_ret (x := exR) hN.sat hr; rw [ex_k] at h; exact h)) fun v w16 hR a23 H28 => ?_
  clear H27 a22
  obtain ⟨J16, nw16, ⟨A8, c8, rfl, hq⟩⟩ := hR
  replace hta := hta.up nw16.le
  replace htb := htb.up nw16.le
  replace hE13 := hE13.up nw16.le
  replace hs := hs.up nw16.le
  replace hp := hp.up nw16.le
  replace hr := hr.up nw16.le
  replace hB1 := hB1.next nw16
  replace hB2 := hB2.next nw16
  replace hB3 := hB3.next nw16
  replace hB4 := hB4.next nw16
  replace hB5 := hB5.next nw16
  have hN := hN.trans nw16
  refine s_alloc H28 zv28 rfl hN fun w17 b6 hN gw17 hB6 hgeb6 heb6 a24 H29 => ?_
  clear H28 a23
  replace hB6 : Box _ _ _ [.int .i64 0, .int .i64 0, .slice none 0 0, .int .u64 0] 28 := hB6
  have hne_hB1_b6 := hB1.lt
  rw [← heb6] at hne_hB1_b6
  have hne_hB2_b6 := hB2.lt
  rw [← heb6] at hne_hB2_b6
  have hne_hB3_b6 := hB3.lt
  rw [← heb6] at hne_hB3_b6
  have hne_hB4_b6 := hB4.lt
  rw [← heb6] at hne_hB4_b6
  have hne_hB5_b6 := hB5.lt
  rw [← heb6] at hne_hB5_b6
  replace hB1 := hB1.gr gw17
  replace hB2 := hB2.gr gw17
  replace hB3 := hB3.gr gw17
  replace hB4 := hB4.gr gw17
  replace hB5 := hB5.gr gw17
  refine s_storeA (vs := [_, _, _, _]) H29 sz28 (by simp) (by simp [Value.oneCell']) rfl rfl hN hB6 (by simp) hgeb6 fun w18 hN hB6 ew18 H30 => ?_
  clear H29
  replace hB1 := hB1.otherE ew18 (by omega)
  replace hB2 := hB2.otherE ew18 (by omega)
  replace hB3 := hB3.otherE ew18 (by omega)
  replace hB4 := hB4.otherE ew18 (by omega)
  replace hB5 := hB5.otherE ew18 (by omega)
  simp only [Nat.zero_add, Nat.add_zero, Nat.reduceAdd, Nat.reduceMul, List.set_cons_zero, List.set_cons_succ, spliceL] at hB6
  clear ew18
  refine wl_end ?_
  refine th_n ?_
  refine wpIn_seq ?_
  refine w_reg ?_
  refine wl1 H30 (r_fld fld48_0 rfl) rfl rfl rfl rfl fun a25 H31 => ?_
  clear H30 a24
  refine wl1 H31 (Box.loadO ag26 rfl hB3 (by simp)) rfl rfl rfl rfl fun a26 H32 => ?_
  clear H31 a25
  refine wl1 H32 (r_loadA (cs := [_, _, _, _]) ag28 rfl hB6.agg) rfl rfl rfl rfl fun a27 H33 => ?_
  clear H32 a26
  refine wlc  H33 rfl rfl hb25 rfl ((by have h := lreceived_ret (x := exS) (p := exK) hN.sat hs vs hq; rw [ex_c.1, ex_c.2] at h; exact h)) fun v w19 hR a28 H34 => ?_
  clear H33 a27
  obtain ⟨J19, nw19, ⟨A9, c9, A10, c10, rfl, hb⟩⟩ := hR
  replace hta := hta.up nw19.le
  replace htb := htb.up nw19.le
  replace hE13 := hE13.up nw19.le
  replace hs := hs.up nw19.le
  replace hp := hp.up nw19.le
  replace hr := hr.up nw19.le
  replace hq := hq.up nw19.le
  replace hB1 := hB1.next nw19
  replace hB2 := hB2.next nw19
  replace hB3 := hB3.next nw19
  replace hB4 := hB4.next nw19
  replace hB5 := hB5.next nw19
  replace hB6 := hB6.next nw19
  have hN := hN.trans nw19
  refine s_alloc H34 zv48 rfl hN fun w20 b7 hN gw20 hB7 hgeb7 heb7 a29 H35 => ?_
  clear H34 a28
  replace hB7 : Box _ _ _ [.int .u64 0, .slice none 0 0, .int .i64 0, .slice none 0 0, .int .i64 0, .int .i64 0] 48 := hB7
  have hne_hB1_b7 := hB1.lt
  rw [← heb7] at hne_hB1_b7
  have hne_hB2_b7 := hB2.lt
  rw [← heb7] at hne_hB2_b7
  have hne_hB3_b7 := hB3.lt
  rw [← heb7] at hne_hB3_b7
  have hne_hB4_b7 := hB4.lt
  rw [← heb7] at hne_hB4_b7
  have hne_hB5_b7 := hB5.lt
  rw [← heb7] at hne_hB5_b7
  have hne_hB6_b7 := hB6.lt
  rw [← heb7] at hne_hB6_b7
  replace hB1 := hB1.gr gw20
  replace hB2 := hB2.gr gw20
  replace hB3 := hB3.gr gw20
  replace hB4 := hB4.gr gw20
  replace hB5 := hB5.gr gw20
  replace hB6 := hB6.gr gw20
  refine s_storeA (vs := [_, _, _, _, _, _]) H35 sz48 (by simp) (by simp [Value.oneCell']) rfl rfl hN hB7 (by simp) hgeb7 fun w21 hN hB7 ew21 H36 => ?_
  clear H35
  replace hB1 := hB1.otherE ew21 (by omega)
  replace hB2 := hB2.otherE ew21 (by omega)
  replace hB3 := hB3.otherE ew21 (by omega)
  replace hB4 := hB4.otherE ew21 (by omega)
  replace hB5 := hB5.otherE ew21 (by omega)
  replace hB6 := hB6.otherE ew21 (by omega)
  simp only [Nat.zero_add, Nat.add_zero, Nat.reduceAdd, Nat.reduceMul, List.set_cons_zero, List.set_cons_succ, spliceL] at hB7
  clear ew21
  refine wl_end ?_
  refine th_n ?_
  refine wpIn_seq ?_
  refine wpIn_seq ?_
  refine w_reg ?_
  refine wl1 H36 (r_fld fld26_0 rfl) rfl rfl rfl rfl fun a30 H37 => ?_
  clear H36 a29
  refine wl1 H37 (r_load sc22 rfl (hB1.cell rfl)) rfl rfl rfl rfl fun a31 H38 => ?_
  clear H37 a30
  refine wl1 H38 (r_neq rfl rfl) rfl rfl rfl rfl fun a32 H39 => ?_
  clear H38 a31
  refine wl1 H39 (r_move rfl) rfl rfl rfl rfl fun a33 H40 => ?_
  clear H39 a32
  refine wl_split (t := 32) H40 rfl (fun hg7_3 H41 => ?_) (fun hg7_3 H41 => ?_)
  ·
    clear H40
    try simp only [decide_eq_true_eq, decide_eq_false_iff_not, Bool.or_eq_true, Bool.and_eq_true, Bool.or_eq_false_iff, Bool.and_eq_false_iff, Bool.not_eq_true', Bool.not_eq_false', Int.not_lt, Int.not_le, ne_eq, Decidable.not_not] at hg7_3
    exact absurd hg7_3 (by simp)
  ·
    clear H40
    try simp only [decide_eq_true_eq, decide_eq_false_iff_not, Bool.or_eq_true, Bool.and_eq_true, Bool.or_eq_false_iff, Bool.and_eq_false_iff, Bool.not_eq_true', Bool.not_eq_false', Int.not_lt, Int.not_le, ne_eq, Decidable.not_not] at hg7_3
    refine wl_on (d := 32) H41 rfl rfl rfl ?_
    refine wl1 H41 (r_fld fld26_0 rfl) rfl rfl rfl rfl fun a34 H42 => ?_
    clear H41 a33
    refine wl_on (d := 32) H42 rfl rfl rfl ?_
    refine wl1 H42 (r_load sc22 rfl (hB2.cell rfl)) rfl rfl rfl rfl fun a35 H43 => ?_
    clear H42 a34
    refine wl_on (d := 32) H43 rfl rfl rfl ?_
    refine wl1 H43 (r_neq rfl rfl) rfl rfl rfl rfl fun a36 H44 => ?_
    clear H43 a35
    refine wl1 H44 (r_pick_f rfl rfl) rfl rfl rfl rfl fun a37 H45 => ?_
    clear H44 a36
    refine wl1 H45 (r_move rfl) rfl rfl rfl rfl fun a38 H46 => ?_
    clear H45 a37
    refine wl_split (t := 37) H46 rfl (fun hg7_8 H47 => ?_) (fun hg7_8 H47 => ?_)
    ·
      clear H46
      try simp only [decide_eq_true_eq, decide_eq_false_iff_not, Bool.or_eq_true, Bool.and_eq_true, Bool.or_eq_false_iff, Bool.and_eq_false_iff, Bool.not_eq_true', Bool.not_eq_false', Int.not_lt, Int.not_le, ne_eq, Decidable.not_not] at hg7_8
      exact absurd hg7_8 (by simp)
    ·
      clear H46
      try simp only [decide_eq_true_eq, decide_eq_false_iff_not, Bool.or_eq_true, Bool.and_eq_true, Bool.or_eq_false_iff, Bool.and_eq_false_iff, Bool.not_eq_true', Bool.not_eq_false', Int.not_lt, Int.not_le, ne_eq, Decidable.not_not] at hg7_8
      refine wl_on (d := 37) H47 rfl rfl rfl ?_
      refine wl1 H47 (r_fld fld48_1 rfl) rfl rfl rfl rfl fun a39 H48 => ?_
      clear H47 a38
      refine wl_on (d := 37) H48 rfl rfl rfl ?_
      refine wl1 H48 (r_load sc39 rfl (hB3.cell rfl)) rfl rfl rfl rfl fun a40 H49 => ?_
      clear H48 a39
      refine wl_on (d := 37) H49 rfl rfl rfl ?_
      refine wl1 H49 (r_neq rfl rfl) rfl rfl rfl rfl fun a41 H50 => ?_
      clear H49 a40
      refine wl1 H50 (r_pick_f rfl rfl) rfl rfl rfl rfl fun a42 H51 => ?_
      clear H50 a41
      refine wl1 H51 (r_move rfl) rfl rfl rfl rfl fun a43 H52 => ?_
      clear H51 a42
      refine wl_split (t := 42) H52 rfl (fun hg7_13 H53 => ?_) (fun hg7_13 H53 => ?_)
      ·
        clear H52
        try simp only [decide_eq_true_eq, decide_eq_false_iff_not, Bool.or_eq_true, Bool.and_eq_true, Bool.or_eq_false_iff, Bool.and_eq_false_iff, Bool.not_eq_true', Bool.not_eq_false', Int.not_lt, Int.not_le, ne_eq, Decidable.not_not] at hg7_13
        exact absurd hg7_13 (by simp)
      ·
        clear H52
        try simp only [decide_eq_true_eq, decide_eq_false_iff_not, Bool.or_eq_true, Bool.and_eq_true, Bool.or_eq_false_iff, Bool.and_eq_false_iff, Bool.not_eq_true', Bool.not_eq_false', Int.not_lt, Int.not_le, ne_eq, Decidable.not_not] at hg7_13
        refine wl_on (d := 42) H53 rfl rfl rfl ?_
        refine wl1 H53 (r_fld fld44_1 rfl) rfl rfl rfl rfl fun a44 H54 => ?_
        clear H53 a43
        refine wl_on (d := 42) H54 rfl rfl rfl ?_
        refine wl1 H54 (r_load sc39 rfl (hB4.cell rfl)) rfl rfl rfl rfl fun a45 H55 => ?_
        clear H54 a44
        refine wl_on (d := 42) H55 rfl rfl rfl ?_
        refine wl1 H55 (r_neq rfl rfl) rfl rfl rfl rfl fun a46 H56 => ?_
        clear H55 a45
        refine wl1 H56 (r_pick_f rfl rfl) rfl rfl rfl rfl fun a47 H57 => ?_
        clear H56 a46
        refine wl1 H57 (r_move rfl) rfl rfl rfl rfl fun a48 H58 => ?_
        clear H57 a47
        refine wl_split (t := 47) H58 rfl (fun hg7_18 H59 => ?_) (fun hg7_18 H59 => ?_)
        ·
          clear H58
          try simp only [decide_eq_true_eq, decide_eq_false_iff_not, Bool.or_eq_true, Bool.and_eq_true, Bool.or_eq_false_iff, Bool.and_eq_false_iff, Bool.not_eq_true', Bool.not_eq_false', Int.not_lt, Int.not_le, ne_eq, Decidable.not_not] at hg7_18
          exact absurd hg7_18 (by simp)
        ·
          clear H58
          try simp only [decide_eq_true_eq, decide_eq_false_iff_not, Bool.or_eq_true, Bool.and_eq_true, Bool.or_eq_false_iff, Bool.and_eq_false_iff, Bool.not_eq_true', Bool.not_eq_false', Int.not_lt, Int.not_le, ne_eq, Decidable.not_not] at hg7_18
          refine wl_on (d := 47) H59 rfl rfl rfl ?_
          refine wl1 H59 (r_fld fld48_1 rfl) rfl rfl rfl rfl fun a49 H60 => ?_
          clear H59 a48
          refine wl_on (d := 47) H60 rfl rfl rfl ?_
          refine wl1 H60 (r_load sc39 rfl (hB5.cell rfl)) rfl rfl rfl rfl fun a50 H61 => ?_
          clear H60 a49
          refine wl_on (d := 47) H61 rfl rfl rfl ?_
          refine wl1 H61 (r_neq rfl rfl) rfl rfl rfl rfl fun a51 H62 => ?_
          clear H61 a50
          refine wl1 H62 (r_pick_f rfl rfl) rfl rfl rfl rfl fun a52 H63 => ?_
          clear H62 a51
          refine wl1 H63 (r_move rfl) rfl rfl rfl rfl fun a53 H64 => ?_
          clear H63 a52
          refine wl_split (t := 52) H64 rfl (fun hg7_23 H65 => ?_) (fun hg7_23 H65 => ?_)
          ·
            clear H64
            try simp only [decide_eq_true_eq, decide_eq_false_iff_not, Bool.or_eq_true, Bool.and_eq_true, Bool.or_eq_false_iff, Bool.and_eq_false_iff, Bool.not_eq_true', Bool.not_eq_false', Int.not_lt, Int.not_le, ne_eq, Decidable.not_not] at hg7_23
            exact absurd hg7_23 (by simp)
          ·
            clear H64
            try simp only [decide_eq_true_eq, decide_eq_false_iff_not, Bool.or_eq_true, Bool.and_eq_true, Bool.or_eq_false_iff, Bool.and_eq_false_iff, Bool.not_eq_true', Bool.not_eq_false', Int.not_lt, Int.not_le, ne_eq, Decidable.not_not] at hg7_23
            refine wl_on (d := 52) H65 rfl rfl rfl ?_
            refine wl1 H65 (r_fld fld48_1 rfl) rfl rfl rfl rfl fun a54 H66 => ?_
            clear H65 a53
            refine wl_on (d := 52) H66 rfl rfl rfl ?_
            refine wl1 H66 (r_load sc39 rfl (hB7.cell rfl)) rfl rfl rfl rfl fun a55 H67 => ?_
            clear H66 a54
            refine wl_on (d := 52) H67 rfl rfl rfl ?_
            refine wl1 H67 (r_neq rfl rfl) rfl rfl rfl rfl fun a56 H68 => ?_
            clear H67 a55
            refine wl1 H68 (r_pick_f rfl rfl) rfl rfl rfl rfl fun a57 H69 => ?_
            clear H68 a56
            refine wl1 H69 (r_move rfl) rfl rfl rfl rfl fun a58 H70 => ?_
            clear H69 a57
            refine wl_split (t := 57) H70 rfl (fun hg7_28 H71 => ?_) (fun hg7_28 H71 => ?_)
            ·
              clear H70
              try simp only [decide_eq_true_eq, decide_eq_false_iff_not, Bool.or_eq_true, Bool.and_eq_true, Bool.or_eq_false_iff, Bool.and_eq_false_iff, Bool.not_eq_true', Bool.not_eq_false', Int.not_lt, Int.not_le, ne_eq, Decidable.not_not] at hg7_28
              exact absurd hg7_28 (by simp)
            ·
              clear H70
              try simp only [decide_eq_true_eq, decide_eq_false_iff_not, Bool.or_eq_true, Bool.and_eq_true, Bool.or_eq_false_iff, Bool.and_eq_false_iff, Bool.not_eq_true', Bool.not_eq_false', Int.not_lt, Int.not_le, ne_eq, Decidable.not_not] at hg7_28
              refine wl_on (d := 57) H71 rfl rfl rfl ?_
              refine wl1 H71 (r_loadA (cs := [_, _, _, _, _]) ag26 rfl hB1.agg) rfl rfl rfl rfl fun a59 H72 => ?_
              clear H71 a58
              refine wl_on (d := 57) H72 rfl rfl rfl ?_
              refine wlc  H72 rfl rfl hb20 rfl ((by have h := lpacket_ret (x := exA) (i := 0) hN.sat hta va (by simp [InK]); rw [ex_no.1] at h; exact h)) fun v w22 hR a60 H73 => ?_
              clear H72 a59
              obtain ⟨J22, nw22, ⟨A11, c11, rfl, hx1⟩⟩ := hR
              replace hta := hta.up nw22.le
              replace htb := htb.up nw22.le
              replace hE13 := hE13.up nw22.le
              replace hs := hs.up nw22.le
              replace hp := hp.up nw22.le
              replace hr := hr.up nw22.le
              replace hq := hq.up nw22.le
              replace hb := hb.up nw22.le
              replace hB1 := hB1.next nw22
              replace hB2 := hB2.next nw22
              replace hB3 := hB3.next nw22
              replace hB4 := hB4.next nw22
              replace hB5 := hB5.next nw22
              replace hB6 := hB6.next nw22
              replace hB7 := hB7.next nw22
              have hN := hN.trans nw22
              refine wl_on (d := 57) H73 rfl rfl rfl ?_
              refine wl1 H73 (r_fieldv 4 rfl rfl (by kernel_rfl)) rfl rfl rfl rfl fun a61 H74 => ?_
              clear H73 a60
              refine wl_on (d := 57) H74 rfl rfl rfl ?_
              refine wl1 H74 (r_neq rfl rfl) rfl rfl rfl rfl fun a62 H75 => ?_
              clear H74 a61
              refine wl1 H75 (r_pick_f rfl rfl) rfl rfl rfl rfl fun a63 H76 => ?_
              clear H75 a62
              refine wl1 H76 (r_move rfl) rfl rfl rfl rfl fun a64 H77 => ?_
              clear H76 a63
              refine wl_split (t := 63) H77 rfl (fun hg7_34 H78 => ?_) (fun hg7_34 H78 => ?_)
              ·
                clear H77
                try simp only [decide_eq_true_eq, decide_eq_false_iff_not, Bool.or_eq_true, Bool.and_eq_true, Bool.or_eq_false_iff, Bool.and_eq_false_iff, Bool.not_eq_true', Bool.not_eq_false', Int.not_lt, Int.not_le, ne_eq, Decidable.not_not] at hg7_34
                exact absurd hg7_34 (by simp)
              ·
                clear H77
                try simp only [decide_eq_true_eq, decide_eq_false_iff_not, Bool.or_eq_true, Bool.and_eq_true, Bool.or_eq_false_iff, Bool.and_eq_false_iff, Bool.not_eq_true', Bool.not_eq_false', Int.not_lt, Int.not_le, ne_eq, Decidable.not_not] at hg7_34
                refine wl_on (d := 63) H78 rfl rfl rfl ?_
                refine wl1 H78 (r_loadA (cs := [_, _, _, _, _]) ag26 rfl hB1.agg) rfl rfl rfl rfl fun a65 H79 => ?_
                clear H78 a64
                refine wl_on (d := 63) H79 rfl rfl rfl ?_
                refine wlc  H79 rfl rfl hb18 rfl ((by have h := ltaken_ret (x := exA) hN.sat hta va; rw [ex_no.2.1] at h; exact h)) fun v w23 hR a66 H80 => ?_
                clear H79 a65
                obtain ⟨J23, nw23, ⟨D12, d12, A12, c12, A13, c13, rfl, _, _, _⟩⟩ := hR
                replace hta := hta.up nw23.le
                replace htb := htb.up nw23.le
                replace hE13 := hE13.up nw23.le
                replace hs := hs.up nw23.le
                replace hp := hp.up nw23.le
                replace hr := hr.up nw23.le
                replace hq := hq.up nw23.le
                replace hb := hb.up nw23.le
                replace hB1 := hB1.next nw23
                replace hB2 := hB2.next nw23
                replace hB3 := hB3.next nw23
                replace hB4 := hB4.next nw23
                replace hB5 := hB5.next nw23
                replace hB6 := hB6.next nw23
                replace hB7 := hB7.next nw23
                have hN := hN.trans nw23
                refine wl_on (d := 63) H80 rfl rfl rfl ?_
                refine wl1 H80 (r_fieldv 6 rfl rfl (by kernel_rfl)) rfl rfl rfl rfl fun a67 H81 => ?_
                clear H80 a66
                refine wl_on (d := 63) H81 rfl rfl rfl ?_
                refine wl1 H81 (r_neq rfl rfl) rfl rfl rfl rfl fun a68 H82 => ?_
                clear H81 a67
                refine wl1 H82 (r_pick_f rfl rfl) rfl rfl rfl rfl fun a69 H83 => ?_
                clear H82 a68
                refine wl_end ?_
                refine th_n ?_
                first | refine w_if H83 rfl (fun hc68 => ?_) (fun hc68 => ?_) | refine w_cond H83 rfl (fun hc68 => ?_) (fun hc68 => ?_)
                ·
                  exact absurd hc68 (by simp)
                ·
                  try simp only [decide_eq_true_eq, decide_eq_false_iff_not, Bool.or_eq_true, Bool.and_eq_true, Bool.or_eq_false_iff, Bool.and_eq_false_iff, Bool.not_eq_true', Bool.not_eq_false', Int.not_lt, Int.not_le, ne_eq, Decidable.not_not] at hc68
                  refine wpIn_skip ?_
                  refine th_n ?_
                  refine wpIn_seq ?_
                  refine wpIn_seq ?_
                  have hS0 := hN.sat
                  have hNsz9 := hN.gr.size
                  refine w_drawE (m := 16) (l0 := [(0, _), (1, _), (4, _), (5, _), (6, _), (7, _)]) hfol H83 ⟨rfl, rfl, rfl, rfl, rfl, rfl, trivial⟩ (by kernel_rfl) ?_
                  refine ⟨_, false, (fun σ ι w1 hg hd hon => by
                      exact OpOK.sub (r := [(0, _), (1, _), (4, _), (5, _), (6, _), (7, _)]) ⟨rfl, rfl, rfl, rfl, rfl, rfl, trivial⟩ (by
                        exact OpOK.eq (r_fld fld44_0 rfl))
                      ), (fun _ _ _ _ _ _ h => h), (FreeR.no _), ?_⟩
                  refine ⟨_, false, (fun σ ι w1 hg hd hon => by
                      have hN := hN.ofGr ((Gr.refl _).drew.trans hg)
                      have hB1 := hB1.gr ((Gr.refl _).drew.trans hg)
                      have hB2 := hB2.gr ((Gr.refl _).drew.trans hg)
                      have hB3 := hB3.gr ((Gr.refl _).drew.trans hg)
                      have hB4 := hB4.gr ((Gr.refl _).drew.trans hg)
                      have hB5 := hB5.gr ((Gr.refl _).drew.trans hg)
                      have hB6 := hB6.gr ((Gr.refl _).drew.trans hg)
                      have hB7 := hB7.gr ((Gr.refl _).drew.trans hg)
                      have f0 := hd 0 (by decide) _ rfl
                      have e0 : σ 0 = _ := f0.1 trivial
                      exact OpOK.sub (r := [(69, _), (0, _), (1, _), (4, _), (5, _), (6, _), (7, _)]) ⟨congrArg some e0, rfl, rfl, rfl, rfl, rfl, rfl, trivial⟩ (by
                        exact OpOK.eq (Box.loadO ag28 rfl hB4 (by simp)))
                      ), (fun _ _ _ _ _ _ h => h), (FreeR.no _), ?_⟩
                  refine ⟨_, false, (fun σ ι w1 hg hd hon => by
                      have hN := hN.ofGr ((Gr.refl _).drew.trans hg)
                      have hB1 := hB1.gr ((Gr.refl _).drew.trans hg)
                      have hB2 := hB2.gr ((Gr.refl _).drew.trans hg)
                      have hB3 := hB3.gr ((Gr.refl _).drew.trans hg)
                      have hB4 := hB4.gr ((Gr.refl _).drew.trans hg)
                      have hB5 := hB5.gr ((Gr.refl _).drew.trans hg)
                      have hB6 := hB6.gr ((Gr.refl _).drew.trans hg)
                      have hB7 := hB7.gr ((Gr.refl _).drew.trans hg)
                      exact OpOK.sub (r := [(0, _), (1, _), (4, _), (5, _), (6, _), (7, _)]) ⟨rfl, rfl, rfl, rfl, rfl, rfl, trivial⟩ (by exact OpOK.litM (dk := (kInt .u8)) (J := J23) (xs := [7]) (cs := [7].map (Value.int .u8)) Try.underlying23 sz5 zv5 (by rfl) (by rfl) (by rfl) (by simp [Value.oneCell']) hN.sat (Row.nums (xs := [7]) (by simp [InK])) (by simp))
                      ), (by exact monoOwn (J := J23) (Φ := fun _ K u => ∃ b, u = .slice (some ⟨b, 0, none⟩) 1 1 ∧ Els ((kInt .u8)) K (some ⟨b, 0, none⟩) ([7]))), (FreeR.no _), ?_⟩
                  refine ⟨_, false, (fun σ ι w1 hg hd hon => by
                      have hN := hN.ofGr ((Gr.refl _).drew.trans hg)
                      have hB1 := hB1.gr ((Gr.refl _).drew.trans hg)
                      have hB2 := hB2.gr ((Gr.refl _).drew.trans hg)
                      have hB3 := hB3.gr ((Gr.refl _).drew.trans hg)
                      have hB4 := hB4.gr ((Gr.refl _).drew.trans hg)
                      have hB5 := hB5.gr ((Gr.refl _).drew.trans hg)
                      have hB6 := hB6.gr ((Gr.refl _).drew.trans hg)
                      have hB7 := hB7.gr ((Gr.refl _).drew.trans hg)
                      exact OpOK.sub (r := [(0, _), (1, _), (4, _), (5, _), (6, _), (7, _)]) ⟨rfl, rfl, rfl, rfl, rfl, rfl, trivial⟩ (by exact OpOK.litM (dk := (kInt .i64)) (J := J23) (xs := [0, 0, 1, 7]) (cs := [0, 0, 1, 7].map (Value.int .i64)) Try.underlying78 sz3 zv3 (by rfl) (by rfl) (by rfl) (by simp [Value.oneCell']) hN.sat (Row.nums (xs := [0, 0, 1, 7]) (by simp [InK])) (by simp))
                      ), (by exact monoOwn (J := J23) (Φ := fun _ K u => ∃ b, u = .slice (some ⟨b, 0, none⟩) 4 4 ∧ Els ((kInt .i64)) K (some ⟨b, 0, none⟩) ([0, 0, 1, 7]))), (FreeR.no _), ?_⟩
                  refine ⟨_, true, (fun σ ι w1 hg hd hon => by
                      have hN := hN.ofGr ((Gr.refl _).drew.trans hg)
                      have hB1 := hB1.gr ((Gr.refl _).drew.trans hg)
                      have hB2 := hB2.gr ((Gr.refl _).drew.trans hg)
                      have hB3 := hB3.gr ((Gr.refl _).drew.trans hg)
                      have hB4 := hB4.gr ((Gr.refl _).drew.trans hg)
                      have hB5 := hB5.gr ((Gr.refl _).drew.trans hg)
                      have hB6 := hB6.gr ((Gr.refl _).drew.trans hg)
                      have hB7 := hB7.gr ((Gr.refl _).drew.trans hg)
                      have f3 := hd 3 (by decide) _ rfl
                      have e3 := f3.1 trivial
                      obtain ⟨K3, hP3, l3, e3, hE3⟩ := e3
                      skip
                      exact CallOK.sub (r := [(72, _), (0, _), (1, _), (4, _), (5, _), (6, _), (7, _)]) ⟨congrArg some e3, rfl, rfl, rfl, rfl, rfl, rfl, trivial⟩ (by
                        exact CallOK.V (enters_of rfl rfl hb36) (by have h := rtag (key := 9) (c := 4) hP3.sat hE3 rfl; rw [← exT9_eq] at h; exact h))
                      ), (fun _ _ _ _ _ _ h => h), (fun _ _ _ _ _ _ h => h), ?_⟩
                  refine ⟨_, false, (fun σ ι w1 hg hd hon => by
                      have f2 := hd 2 (by decide) _ rfl
                      have f4 := hd 4 (by decide) _ rfl
                      have e2 := f2.1 trivial
                      obtain ⟨K2, hP2, l2, e2, hE2⟩ := e2
                      have e4 : σ 4 = _ := f4.1 trivial
                      refine OpOK.ofCond ?_
                      exact OpOK.sub (r := [(71, _), (73, _), (0, _), (1, _), (4, _), (5, _), (6, _), (7, _)]) ⟨congrArg some e2, congrArg some e4, rfl, rfl, rfl, rfl, rfl, rfl, trivial⟩ (by exact OpOK.sat (J := J23) (K := K2) (v := .agg #[.int .i64 0, .int .i64 0, .slice (some ⟨l2, 0, none⟩) 1 1, .int .u64 exT9]) (r_build rfl (fun w => by kernel_rfl)) hP2.le hP2.sat ⟨some ⟨l2, 0, none⟩, 1, rfl, ⟨by simp [InK], by simp [InK], exT9_in, Nat.le_refl _, hE2⟩⟩)
                      ), (monoSat (J := J23) (Φ := fun _ => fun K u => ∃ A c, u = .agg #[.int .i64 exP.seq, .int .i64 exP.ack, .slice A exP.data.length c, .int .u64 exP.chk] ∧ PkAt K exP A c)), (FreeR.no _), ?_⟩
                  refine ⟨_, true, (fun σ ι w1 hg hd hon => by
                      have hN := hN.ofGr ((Gr.refl _).drew.trans hg)
                      have hB1 := hB1.gr ((Gr.refl _).drew.trans hg)
                      have hB2 := hB2.gr ((Gr.refl _).drew.trans hg)
                      have hB3 := hB3.gr ((Gr.refl _).drew.trans hg)
                      have hB4 := hB4.gr ((Gr.refl _).drew.trans hg)
                      have hB5 := hB5.gr ((Gr.refl _).drew.trans hg)
                      have hB6 := hB6.gr ((Gr.refl _).drew.trans hg)
                      have hB7 := hB7.gr ((Gr.refl _).drew.trans hg)
                      have f1 := hd 1 (by decide) _ rfl
                      have f5 := hd 5 (by decide) _ rfl
                      have e1 : σ 1 = _ := f1.1 trivial
                      obtain ⟨K5, hle5, hS5, A5, c5, e5, hE5⟩ := f5.1 trivial
                      skip
                      exact CallOK.sub (r := [(70, _), (74, _), (0, _), (1, _), (4, _), (5, _), (6, _), (7, _)]) ⟨congrArg some e1, congrArg some e5, rfl, rfl, rfl, rfl, rfl, rfl, trivial⟩ (by
                        exact CallOK.V (enters_of rfl rfl hb28) (by have hz := rsamep hS5 (hp.up hle5) hE5; exact hz))
                      ), (fun _ _ _ _ _ _ h => h), (fun _ _ _ _ _ _ h => h), ?_⟩
                  refine ⟨_, false, (fun σ ι w1 hg hd hon => by
                      have f6 := hd 6 (by decide) _ rfl
                      have e6 : σ 6 = _ := f6.1 trivial
                      exact OpOK.sub (r := [(75, _), (0, _), (1, _), (4, _), (5, _), (6, _), (7, _)]) ⟨congrArg some e6, rfl, rfl, rfl, rfl, rfl, rfl, trivial⟩ (by
                        exact OpOK.eq (r_not rfl))
                      ), (fun _ _ _ _ _ _ h => h), (FreeR.no _), ?_⟩
                  refine ⟨_, false, (fun σ ι w1 hg hd hon => by
                      have f7 := hd 7 (by decide) _ rfl
                      have e7 : σ 7 = _ := f7.1 trivial
                      exact OpOK.sub (r := [(76, _), (0, _), (1, _), (4, _), (5, _), (6, _), (7, _)]) ⟨congrArg some e7, rfl, rfl, rfl, rfl, rfl, rfl, trivial⟩ (by
                        exact OpOK.eq (r_move rfl))
                      ), (fun _ _ _ _ _ _ h => h), (FreeR.no _), ?_⟩
                  refine ⟨_, false, (fun σ ι w1 hg hd hon => by
                      have hN := hN.ofGr ((Gr.refl _).drew.trans hg)
                      have hB1 := hB1.gr ((Gr.refl _).drew.trans hg)
                      have hB2 := hB2.gr ((Gr.refl _).drew.trans hg)
                      have hB3 := hB3.gr ((Gr.refl _).drew.trans hg)
                      have hB4 := hB4.gr ((Gr.refl _).drew.trans hg)
                      have hB5 := hB5.gr ((Gr.refl _).drew.trans hg)
                      have hB6 := hB6.gr ((Gr.refl _).drew.trans hg)
                      have hB7 := hB7.gr ((Gr.refl _).drew.trans hg)
                      have f8 := hd 8 (by decide) _ rfl
                      have e8 : σ 8 = _ := f8.1 trivial
                      have hgd : σ 8 = .bool false := hon
                      have hgb := (f8.1 trivial : σ 8 = _).symm.trans hgd
                      simp only [Value.bool.injEq] at hgb
                      try simp only [decide_eq_true_eq, decide_eq_false_iff_not, Bool.or_eq_true, Bool.and_eq_true, Bool.or_eq_false_iff, Bool.and_eq_false_iff, Bool.not_eq_true', Bool.not_eq_false', Int.not_lt, Int.not_le, ne_eq, Decidable.not_not] at hgb
                      exact OpOK.sub (r := [(0, _), (1, _), (4, _), (5, _), (6, _), (7, _)]) ⟨rfl, rfl, rfl, rfl, rfl, rfl, trivial⟩ (by
                        exact OpOK.eq (r_loadA (cs := [_, _, _, _]) ag28 rfl hB6.agg))
                      ), (fun _ _ _ _ _ _ h => h), (FreeR.no _), ?_⟩
                  refine ⟨_, false, (fun σ ι w1 hg hd hon => by
                      have hN := hN.ofGr ((Gr.refl _).drew.trans hg)
                      have hB1 := hB1.gr ((Gr.refl _).drew.trans hg)
                      have hB2 := hB2.gr ((Gr.refl _).drew.trans hg)
                      have hB3 := hB3.gr ((Gr.refl _).drew.trans hg)
                      have hB4 := hB4.gr ((Gr.refl _).drew.trans hg)
                      have hB5 := hB5.gr ((Gr.refl _).drew.trans hg)
                      have hB6 := hB6.gr ((Gr.refl _).drew.trans hg)
                      have hB7 := hB7.gr ((Gr.refl _).drew.trans hg)
                      have f8 := hd 8 (by decide) _ rfl
                      have e8 : σ 8 = _ := f8.1 trivial
                      have hgd : σ 8 = .bool false := hon
                      have hgb := (f8.1 trivial : σ 8 = _).symm.trans hgd
                      simp only [Value.bool.injEq] at hgb
                      try simp only [decide_eq_true_eq, decide_eq_false_iff_not, Bool.or_eq_true, Bool.and_eq_true, Bool.or_eq_false_iff, Bool.and_eq_false_iff, Bool.not_eq_true', Bool.not_eq_false', Int.not_lt, Int.not_le, ne_eq, Decidable.not_not] at hgb
                      exact OpOK.sub (r := [(0, _), (1, _), (4, _), (5, _), (6, _), (7, _)]) ⟨rfl, rfl, rfl, rfl, rfl, rfl, trivial⟩ (by exact OpOK.litM (dk := (kInt .i64)) (J := J23) (xs := [-1, 1, 0]) (cs := [-1, 1, 0].map (Value.int .i64)) Try.underlying78 sz3 zv3 (by rfl) (by rfl) (by rfl) (by simp [Value.oneCell']) hN.sat (Row.nums (xs := [-1, 1, 0]) (by simp [InK])) (by simp))
                      ), (by exact monoOwn (J := J23) (Φ := fun _ K u => ∃ b, u = .slice (some ⟨b, 0, none⟩) 3 3 ∧ Els ((kInt .i64)) K (some ⟨b, 0, none⟩) ([-1, 1, 0]))), (FreeR.no _), ?_⟩
                  refine ⟨_, true, (fun σ ι w1 hg hd hon => by
                      have hN := hN.ofGr ((Gr.refl _).drew.trans hg)
                      have hB1 := hB1.gr ((Gr.refl _).drew.trans hg)
                      have hB2 := hB2.gr ((Gr.refl _).drew.trans hg)
                      have hB3 := hB3.gr ((Gr.refl _).drew.trans hg)
                      have hB4 := hB4.gr ((Gr.refl _).drew.trans hg)
                      have hB5 := hB5.gr ((Gr.refl _).drew.trans hg)
                      have hB6 := hB6.gr ((Gr.refl _).drew.trans hg)
                      have hB7 := hB7.gr ((Gr.refl _).drew.trans hg)
                      have f10 := hd 10 (by decide) _ rfl
                      have f8 := hd 8 (by decide) _ rfl
                      have e10 := f10.1 hon
                      obtain ⟨K10, hP10, l10, e10, hE10⟩ := e10
                      have e8 : σ 8 = _ := f8.1 trivial
                      have hgd : σ 8 = .bool false := hon
                      have hgb := (f8.1 trivial : σ 8 = _).symm.trans hgd
                      simp only [Value.bool.injEq] at hgb
                      try simp only [decide_eq_true_eq, decide_eq_false_iff_not, Bool.or_eq_true, Bool.and_eq_true, Bool.or_eq_false_iff, Bool.and_eq_false_iff, Bool.not_eq_true', Bool.not_eq_false', Int.not_lt, Int.not_le, ne_eq, Decidable.not_not] at hgb
                      skip
                      exact CallOK.sub (r := [(79, _), (0, _), (1, _), (4, _), (5, _), (6, _), (7, _)]) ⟨congrArg some e10, rfl, rfl, rfl, rfl, rfl, rfl, trivial⟩ (by
                        exact CallOK.V (enters_of rfl rfl hb36) (by have h := rtag (key := 8) (c := 3) hP10.sat hE10 rfl; rw [← exT8_eq] at h; exact h))
                      ), (fun _ _ _ _ _ _ h => h), (fun _ _ _ _ _ _ h => h), ?_⟩
                  refine ⟨_, false, (fun σ ι w1 hg hd hon => by
                      have f11 := hd 11 (by decide) _ rfl
                      have f8 := hd 8 (by decide) _ rfl
                      have e11 : σ 11 = _ := f11.1 hon
                      have e8 : σ 8 = _ := f8.1 trivial
                      have hgd : σ 8 = .bool false := hon
                      have hgb := (f8.1 trivial : σ 8 = _).symm.trans hgd
                      simp only [Value.bool.injEq] at hgb
                      try simp only [decide_eq_true_eq, decide_eq_false_iff_not, Bool.or_eq_true, Bool.and_eq_true, Bool.or_eq_false_iff, Bool.and_eq_false_iff, Bool.not_eq_true', Bool.not_eq_false', Int.not_lt, Int.not_le, ne_eq, Decidable.not_not] at hgb
                      refine OpOK.ofCond ?_
                      exact OpOK.sub (r := [(80, _), (0, _), (1, _), (4, _), (5, _), (6, _), (7, _)]) ⟨congrArg some e11, rfl, rfl, rfl, rfl, rfl, rfl, trivial⟩ (by exact OpOK.sat (J := J23) (K := J23) (v := .agg #[.int .i64 (-1), .int .i64 1, .slice none 0 0, .int .u64 exT8]) (r_build rfl (fun w => by kernel_rfl)) (Im.le.refl _) (hN.sat.gr ((Gr.refl _).drew.trans hg)) ⟨none, 0, rfl, ⟨by simp [InK], by simp [InK], exT8_in, Nat.le_refl _, Els.nil _ _ _⟩⟩)
                      ), (monoSat (J := J23) (Φ := fun _ => fun K u => ∃ A c, u = .agg #[.int .i64 exK.seq, .int .i64 exK.ack, .slice A exK.data.length c, .int .u64 exK.chk] ∧ PkAt K exK A c)), (FreeR.no _), ?_⟩
                  refine ⟨_, true, (fun σ ι w1 hg hd hon => by
                      have hN := hN.ofGr ((Gr.refl _).drew.trans hg)
                      have hB1 := hB1.gr ((Gr.refl _).drew.trans hg)
                      have hB2 := hB2.gr ((Gr.refl _).drew.trans hg)
                      have hB3 := hB3.gr ((Gr.refl _).drew.trans hg)
                      have hB4 := hB4.gr ((Gr.refl _).drew.trans hg)
                      have hB5 := hB5.gr ((Gr.refl _).drew.trans hg)
                      have hB6 := hB6.gr ((Gr.refl _).drew.trans hg)
                      have hB7 := hB7.gr ((Gr.refl _).drew.trans hg)
                      have f9 := hd 9 (by decide) _ rfl
                      have f12 := hd 12 (by decide) _ rfl
                      have f8 := hd 8 (by decide) _ rfl
                      have e9 : σ 9 = _ := f9.1 hon
                      obtain ⟨K12, hle12, hS12, A12, c12, e12, hE12⟩ := f12.1 hon
                      have e8 : σ 8 = _ := f8.1 trivial
                      have hgd : σ 8 = .bool false := hon
                      have hgb := (f8.1 trivial : σ 8 = _).symm.trans hgd
                      simp only [Value.bool.injEq] at hgb
                      try simp only [decide_eq_true_eq, decide_eq_false_iff_not, Bool.or_eq_true, Bool.and_eq_true, Bool.or_eq_false_iff, Bool.and_eq_false_iff, Bool.not_eq_true', Bool.not_eq_false', Int.not_lt, Int.not_le, ne_eq, Decidable.not_not] at hgb
                      skip
                      exact CallOK.sub (r := [(78, _), (81, _), (0, _), (1, _), (4, _), (5, _), (6, _), (7, _)]) ⟨congrArg some e9, congrArg some e12, rfl, rfl, rfl, rfl, rfl, rfl, trivial⟩ (by
                        exact CallOK.V (enters_of rfl rfl hb28) (by have hz := rsamep hS12 (hq.up hle12) hE12; exact hz))
                      ), (fun _ _ _ _ _ _ h => h), (fun _ _ _ _ _ _ h => h), ?_⟩
                  refine ⟨_, false, (fun σ ι w1 hg hd hon => by
                      have f13 := hd 13 (by decide) _ rfl
                      have f8 := hd 8 (by decide) _ rfl
                      have e13 : σ 13 = _ := f13.1 hon
                      have e8 : σ 8 = _ := f8.1 trivial
                      have hgd : σ 8 = .bool false := hon
                      have hgb := (f8.1 trivial : σ 8 = _).symm.trans hgd
                      simp only [Value.bool.injEq] at hgb
                      try simp only [decide_eq_true_eq, decide_eq_false_iff_not, Bool.or_eq_true, Bool.and_eq_true, Bool.or_eq_false_iff, Bool.and_eq_false_iff, Bool.not_eq_true', Bool.not_eq_false', Int.not_lt, Int.not_le, ne_eq, Decidable.not_not] at hgb
                      exact OpOK.sub (r := [(82, _), (0, _), (1, _), (4, _), (5, _), (6, _), (7, _)]) ⟨congrArg some e13, rfl, rfl, rfl, rfl, rfl, rfl, trivial⟩ (by
                        exact OpOK.eq (r_not rfl))
                      ), (fun _ _ _ _ _ _ h => h), (FreeR.no _), ?_⟩
                  refine ⟨_, false, (fun σ ι w1 hg hd hon => by
                      have f8 := hd 8 (by decide) _ rfl
                      have f14 := hd 14 (by decide) _ rfl
                      have e8 : σ 8 = _ := f8.1 trivial
                      have ec : σ 8 = _ := f8.1 trivial
                      exact OpOK.id (by refine OpOK.or (dc := 77) (dy := 83) (kc := σ 8) (ky := σ 14) ?_ ?_ ec (fun hb => f14.1 (by show σ 8 = _; rw [ec]; exact congrArg Value.bool hb)) <;> rfl)
                      ), (fun _ _ _ _ _ _ h => h), (FreeR.no _), ?_⟩
                  intro σ ι a70 w25 hgw25 H84 hd hap
                  skip
                  have hN0 := hN
                  have hN := hN.ofGr ((Gr.refl _).drew.trans hgw25)
                  replace hB1 := hB1.gr ((Gr.refl _).drew.trans hgw25)
                  replace hB2 := hB2.gr ((Gr.refl _).drew.trans hgw25)
                  replace hB3 := hB3.gr ((Gr.refl _).drew.trans hgw25)
                  replace hB4 := hB4.gr ((Gr.refl _).drew.trans hgw25)
                  replace hB5 := hB5.gr ((Gr.refl _).drew.trans hgw25)
                  replace hB6 := hB6.gr ((Gr.refl _).drew.trans hgw25)
                  replace hB7 := hB7.gr ((Gr.refl _).drew.trans hgw25)
                  have e15 : σ 15 = _ := (hd 15 (by decide) _ rfl).1 trivial
                  replace H84 := H84.sub (r := [(84, _), (0, _), (1, _), (4, _), (5, _), (6, _), (7, _)]) ⟨congrArg some e15, rfl, rfl, rfl, rfl, rfl, rfl, trivial⟩
                  clear hd
                  clear hap
                  refine wl_end ?_
                  refine th_n ?_
                  first | refine w_if H84 rfl (fun hc84 => ?_) (fun hc84 => ?_) | refine w_cond H84 rfl (fun hc84 => ?_) (fun hc84 => ?_)
                  ·
                    exact absurd hc84 (by simp)
                  ·
                    try simp only [decide_eq_true_eq, decide_eq_false_iff_not, Bool.or_eq_true, Bool.and_eq_true, Bool.or_eq_false_iff, Bool.and_eq_false_iff, Bool.not_eq_true', Bool.not_eq_false', Int.not_lt, Int.not_le, ne_eq, Decidable.not_not] at hc84
                    refine wpIn_skip ?_
                    refine th_n ?_
                    refine wpIn_seq ?_
                    refine w_reg ?_
                    refine wl1 H84 (r_fld fld48_0 rfl) rfl rfl rfl rfl fun a71 H85 => ?_
                    clear H84 a70
                    refine wl1 H85 (Box.loadO ag26 rfl hB5 (by simp)) rfl rfl rfl rfl fun a72 H86 => ?_
                    clear H85 a71
                    refine s_lit1 (cs := [_]) H86 Try.underlying23 sz5 zv5 rfl rfl rfl (by simp [Value.oneCell']) rfl hN fun w26 l87 K26 hKl87 hlel87 hN nw26 hgel87 a73 H87 => ?_
                    clear H86 a72
                    replace hta := hta.up nw26.le
                    replace htb := htb.up nw26.le
                    replace hE13 := hE13.up nw26.le
                    replace hs := hs.up nw26.le
                    replace hp := hp.up nw26.le
                    replace hr := hr.up nw26.le
                    replace hq := hq.up nw26.le
                    replace hb := hb.up nw26.le
                    replace hB1 := hB1.next nw26
                    replace hB2 := hB2.next nw26
                    replace hB3 := hB3.next nw26
                    replace hB4 := hB4.next nw26
                    replace hB5 := hB5.next nw26
                    replace hB6 := hB6.next nw26
                    replace hB7 := hB7.next nw26
                    have hE87 : Els (kInt .u8) K26 (some ⟨l87, 0, none⟩) [7] := Els.nums (xs := [7]) hKl87 (by simp) (by simp [InK])
                    refine s_lit1 (cs := [_]) H87 Try.underlying24 sz23 zv23 rfl rfl rfl (by simp [Value.oneCell']) rfl hN fun w27 l88 K27 hKl88 hlel88 hN nw27 hgel88 a74 H88 => ?_
                    clear H87 a73
                    replace hta := hta.up nw27.le
                    replace htb := htb.up nw27.le
                    replace hE13 := hE13.up nw27.le
                    replace hs := hs.up nw27.le
                    replace hp := hp.up nw27.le
                    replace hr := hr.up nw27.le
                    replace hq := hq.up nw27.le
                    replace hb := hb.up nw27.le
                    replace hE87 := hE87.up nw27.le
                    replace hB1 := hB1.next nw27
                    replace hB2 := hB2.next nw27
                    replace hB3 := hB3.next nw27
                    replace hB4 := hB4.next nw27
                    replace hB5 := hB5.next nw27
                    replace hB6 := hB6.next nw27
                    replace hB7 := hB7.next nw27
                    have hE88 : Els kB K27 (some ⟨l88, 0, none⟩) [[7]] := Els.one hKl88 ⟨_, _, rfl, Nat.le_refl _, hE87⟩
                    refine wl1 H88 (r_build (v := .agg #[.int .u64 9, .slice none 0 0, .int .i64 0, .slice (some ⟨l88, 0, none⟩) 1 1, .int .i64 1]) rfl (fun w => by kernel_rfl)) rfl rfl rfl rfl fun a75 H89 => ?_
                    clear H88 a74
                    refine wlc  H89 rfl rfl hb14 rfl (rsamel (x := exR) (y := exR) hN.sat hr ⟨by simp [InK], by simp [InK], by simp [InK], Nat.le_refl _, Els.nil _ _ none, Nat.le_refl _, hE88⟩) fun v w28 hR a76 H90 => ?_
                    clear H89 a75
                    obtain ⟨rfl, gw28⟩ := hR
                    have hN := hN.ofGr gw28
                    replace hB1 := hB1.gr gw28
                    replace hB2 := hB2.gr gw28
                    replace hB3 := hB3.gr gw28
                    replace hB4 := hB4.gr gw28
                    replace hB5 := hB5.gr gw28
                    replace hB6 := hB6.gr gw28
                    replace hB7 := hB7.gr gw28
                    replace H90 := H90.known (t := 90) (b := true) rfl (decide_eq_true rfl)
                    refine wl1 H90 (r_move rfl) rfl rfl rfl rfl fun a77 H91 => ?_
                    clear H90 a76
                    refine wl_on (d := 91) H91 rfl rfl rfl ?_
                    refine wl1 H91 (r_fld fld48_0 rfl) rfl rfl rfl rfl fun a78 H92 => ?_
                    clear H91 a77
                    refine wl_on (d := 91) H92 rfl rfl rfl ?_
                    refine wl1 H92 (Box.loadO ag26 rfl hB7 (by simp)) rfl rfl rfl rfl fun a79 H93 => ?_
                    clear H92 a78
                    refine wl_on (d := 91) H93 rfl rfl rfl ?_
                    refine wl1 H93 (r_build (v := .agg #[.int .u64 8, .slice none 0 0, .int .i64 1, .slice none 0 0, .int .i64 0]) rfl (fun w => by kernel_rfl)) rfl rfl rfl rfl fun a80 H94 => ?_
                    clear H93 a79
                    refine wl_on (d := 91) H94 rfl rfl rfl ?_
                    refine wlc  H94 rfl rfl hb14 rfl (rsamel (x := exC) (y := exC) hN.sat hb ⟨by simp [InK], by simp [InK], by simp [InK], Nat.le_refl _, Els.nil _ _ none, Nat.le_refl _, Els.nil _ _ none⟩) fun v w29 hR a81 H95 => ?_
                    clear H94 a80
                    obtain ⟨rfl, gw29⟩ := hR
                    have hN := hN.ofGr gw29
                    replace hB1 := hB1.gr gw29
                    replace hB2 := hB2.gr gw29
                    replace hB3 := hB3.gr gw29
                    replace hB4 := hB4.gr gw29
                    replace hB5 := hB5.gr gw29
                    replace hB6 := hB6.gr gw29
                    replace hB7 := hB7.gr gw29
                    replace H95 := H95.known (t := 95) (b := true) rfl (decide_eq_true rfl)
                    refine wl1 H95 (r_pick_t rfl rfl) rfl rfl rfl rfl fun a82 H96 => ?_
                    clear H95 a81
                    refine wl1 H96 (r_move rfl) rfl rfl rfl rfl fun a83 H97 => ?_
                    clear H96 a82
                    refine wl_on (d := 97) H97 rfl rfl rfl ?_
                    refine wl1 H97 (r_fld fld48_0 rfl) rfl rfl rfl rfl fun a84 H98 => ?_
                    clear H97 a83
                    refine wl_on (d := 97) H98 rfl rfl rfl ?_
                    refine wl1 H98 (Box.loadO ag26 rfl hB5 (by simp)) rfl rfl rfl rfl fun a85 H99 => ?_
                    clear H98 a84
                    refine wl_on (d := 97) H99 rfl rfl rfl ?_
                    refine wlc  H99 rfl rfl hb15 rfl ((by have h := valid_ret (x := exR) hN.sat hr; exact h)) fun v w30 hR a86 H100 => ?_
                    clear H99 a85
                    obtain ⟨rfl, gw30⟩ := hR
                    have hN := hN.ofGr gw30
                    replace hB1 := hB1.gr gw30
                    replace hB2 := hB2.gr gw30
                    replace hB3 := hB3.gr gw30
                    replace hB4 := hB4.gr gw30
                    replace hB5 := hB5.gr gw30
                    replace hB6 := hB6.gr gw30
                    replace hB7 := hB7.gr gw30
                    replace H100 := H100.known (t := 100) (b := true) rfl ((lvalid_iff exR).2 vr)
                    refine wl1 H100 (r_pick_t rfl rfl) rfl rfl rfl rfl fun a87 H101 => ?_
                    clear H100 a86
                    refine wl1 H101 (r_move rfl) rfl rfl rfl rfl fun a88 H102 => ?_
                    clear H101 a87
                    refine wl_on (d := 102) H102 rfl rfl rfl ?_
                    refine wl1 H102 (r_build (v := .agg #[.int .u64 0, .slice none 0 0, .int .i64 0, .slice none 0 0, .int .i64 (-1)]) rfl (fun w => by kernel_rfl)) rfl rfl rfl rfl fun a89 H103 => ?_
                    clear H102 a88
                    refine wl_on (d := 102) H103 rfl rfl rfl ?_
                    refine wlc  H103 rfl rfl hb15 rfl (valid_ret (x := ⟨0, [], 0, [], -1⟩) hN.sat ⟨by simp [InK], by simp [InK], by simp [InK], Nat.le_refl _, Els.nil _ _ none, Nat.le_refl _, Els.nil _ _ none⟩) fun v w31 hR a90 H104 => ?_
                    clear H103 a89
                    obtain ⟨rfl, gw31⟩ := hR
                    have hN := hN.ofGr gw31
                    replace hB1 := hB1.gr gw31
                    replace hB2 := hB2.gr gw31
                    replace hB3 := hB3.gr gw31
                    replace hB4 := hB4.gr gw31
                    replace hB5 := hB5.gr gw31
                    replace hB6 := hB6.gr gw31
                    replace hB7 := hB7.gr gw31
                    replace H104 := H104.known (t := 104) (b := false) rfl rfl
                    refine wl_on (d := 102) H104 rfl rfl rfl ?_
                    refine wl1 H104 (r_not rfl) rfl rfl rfl rfl fun a91 H105 => ?_
                    clear H104 a90
                    replace H105 := H105.known (t := 105) (b := true) rfl rfl
                    refine wl1 H105 (r_pick_t rfl rfl) rfl rfl rfl rfl fun a92 H106 => ?_
                    clear H105 a91
                    refine wl1 H106 (r_move rfl) rfl rfl rfl rfl fun a93 H107 => ?_
                    clear H106 a92
                    refine wl_on (d := 107) H107 rfl rfl rfl ?_
                    refine wl1 H107 (r_loadA (cs := [_, _, _, _, _]) ag26 rfl hB1.agg) rfl rfl rfl rfl fun a94 H108 => ?_
                    clear H107 a93
                    refine wl_on (d := 107) H108 rfl rfl rfl ?_
                    refine wl1 H108 (r_fld fld44_0 rfl) rfl rfl rfl rfl fun a95 H109 => ?_
                    clear H108 a94
                    refine wl_on (d := 107) H109 rfl rfl rfl ?_
                    refine wl1 H109 (Box.loadO ag28 rfl hB4 (by simp)) rfl rfl rfl rfl fun a96 H110 => ?_
                    clear H109 a95
                    refine wl_on (d := 107) H110 rfl rfl rfl ?_
                    refine wlc  H110 rfl rfl hb25 rfl ((by have h := lreceived_ret (x := exA) (p := exP) hN.sat hta va hp; rw [ex_no.2.2] at h; exact h)) fun v w32 hR a97 H111 => ?_
                    clear H110 a96
                    obtain ⟨J32, nw32, ⟨A14, c14, A15, c15, rfl, _⟩⟩ := hR
                    replace hta := hta.up nw32.le
                    replace htb := htb.up nw32.le
                    replace hE13 := hE13.up nw32.le
                    replace hs := hs.up nw32.le
                    replace hp := hp.up nw32.le
                    replace hr := hr.up nw32.le
                    replace hq := hq.up nw32.le
                    replace hb := hb.up nw32.le
                    replace hE87 := hE87.up nw32.le
                    replace hB1 := hB1.next nw32
                    replace hB2 := hB2.next nw32
                    replace hB3 := hB3.next nw32
                    replace hB4 := hB4.next nw32
                    replace hB5 := hB5.next nw32
                    replace hB6 := hB6.next nw32
                    replace hB7 := hB7.next nw32
                    have hN := hN.trans nw32
                    refine wl_on (d := 107) H111 rfl rfl rfl ?_
                    refine wl1 H111 (r_fieldv 5 rfl rfl (by kernel_rfl)) rfl rfl rfl rfl fun a98 H112 => ?_
                    clear H111 a97
                    refine wl_on (d := 107) H112 rfl rfl rfl ?_
                    refine wl1 H112 (r_eql rfl rfl) rfl rfl rfl rfl fun a99 H113 => ?_
                    clear H112 a98
                    refine wl1 H113 (r_pick_t rfl rfl) rfl rfl rfl rfl fun a100 H114 => ?_
                    clear H113 a99
                    refine wl1 H114 (r_assign rfl) rfl rfl rfl rfl fun a101 H115 => ?_
                    clear H114 a100
                    refine wl_end ?_
                    refine th_n ?_
                    refine wpIn_ret ?_
                    refine fin_r H115 (res1 rfl H115 rfl) ?_
                    exact ⟨by first | rfl | simp, hN.gr⟩
end Go.Proofs.Ytjjpaghloaggeaa
