/- Receiving. -/
import Derived.Test.YtjjpaghloaggeaaTrC
import Derived.Test.YtjjpaghloaggeaaDrawS
set_option linter.unusedVariables false
set_option linter.unusedSimpArgs false
namespace Go.Proofs.Ytjjpaghloaggeaa
open Go.RowKit

set_option maxRecDepth 100000 in
set_option maxHeartbeats 1000000 in
theorem accepted_ret {A1 A2 : Option Addr} {c1 c2 : Nat} {x : Lk} {p : Pk} {D : Option Addr} {cd : Nat} {I : Im} {w : World} (hS : Sat I w) (hL : LkAt I x A1 c1 A2 c2) (hv : LkV x) (hP : PkAt I p D cd) :
    Ret Try.prog 56 [.agg #[.int .u64 x.key, .slice A1 x.out.length c1, .int .i64 x.base, .slice A2 x.inn.length c2, .int .i64 x.rcv], .agg #[.int .i64 p.seq, .int .i64 p.ack, .slice D p.data.length cd, .int .u64 p.chk]] w (fun v w' => v = .bool (decide (lacc x p)) ∧ Gr w w') := by
  have hv1 := hv.b0
  have hv2 := hv.b1
  have hv3 := hv.o
  have hk1 := hP.ks
  have hk2 := hP.ka
  simp only [InK] at hk1 hk2
  have hk3 := hP.de.1
  refine ret_of (N := 57) Try.func56 rfl rfl rfl fun a0 H0 => ?_
  have hN := New.refl hS
  simp only [argsEnv, Nat.zero_add, Nat.reduceAdd] at H0
  refine wpIn_seq ?_
  refine w_reg ?_
  refine s_box H0 rfl rfl hN fun w1 b2 hN gw1 hB2 hgeb2 heb2 a1 H1 => ?_
  clear H0 a0
  replace hB2 : Box _ _ _ [_, _, _, _, _] 26 := hB2
  refine s_box H1 rfl rfl hN fun w2 b3 hN gw2 hB3 hgeb3 heb3 a2 H2 => ?_
  clear H1 a1
  replace hB3 : Box _ _ _ [_, _, _, _] 28 := hB3
  have hne_hB2_b3 := hB2.lt
  rw [← heb3] at hne_hB2_b3
  replace hB2 := hB2.gr gw2
  refine wl1 H2 (r_assign rfl) rfl rfl rfl rfl fun a3 H3 => ?_
  clear H2 a2
  refine wl_end ?_
  refine th_n ?_
  refine wpIn_seq ?_
  refine wpIn_seq ?_
  refine w_reg ?_
  refine wl1 H3 (r_fld fld28_0 rfl) rfl rfl rfl rfl fun a4 H4 => ?_
  clear H3 a3
  refine wl1 H4 (r_load sc3 rfl (hB3.cell rfl)) rfl rfl rfl rfl fun a5 H5 => ?_
  clear H4 a4
  refine wl1 H5 (r_lss rfl rfl) rfl rfl rfl rfl fun a6 H6 => ?_
  clear H5 a5
  refine wl1 H6 (r_move rfl) rfl rfl rfl rfl fun a7 H7 => ?_
  clear H6 a6
  refine wl_split (t := 8) H7 rfl (fun hg1_3 H8 => ?_) (fun hg1_3 H8 => ?_)
  ·
    clear H7
    try simp only [decide_eq_true_eq, decide_eq_false_iff_not, Bool.or_eq_true, Bool.and_eq_true, Bool.or_eq_false_iff, Bool.and_eq_false_iff, Bool.not_eq_true', Bool.not_eq_false', Int.not_lt, Int.not_le, ne_eq, Decidable.not_not] at hg1_3
    refine wl_off (d := 8) H8 rfl rfl rfl rfl rfl rfl fun a8 H9 => ?_
    clear H8 a7
    refine wl_off (d := 8) H9 rfl rfl rfl rfl rfl rfl fun a9 H10 => ?_
    clear H9 a8
    refine wl_off (d := 8) H10 rfl rfl rfl rfl rfl rfl fun a10 H11 => ?_
    clear H10 a9
    refine wl_off (d := 8) H11 rfl rfl rfl rfl rfl rfl fun a11 H12 => ?_
    clear H11 a10
    refine wl_offu (d := 12) H12 rfl rfl rfl rfl rfl rfl fun a12 H13 => ?_
    clear H12 a11
    refine wl_offu (d := 12) H13 rfl rfl rfl rfl rfl rfl fun a13 H14 => ?_
    clear H13 a12
    refine wl_offu (d := 12) H14 rfl rfl rfl rfl rfl rfl fun a14 H15 => ?_
    clear H14 a13
    refine wl_offu (d := 12) H15 rfl rfl rfl rfl rfl rfl fun a15 H16 => ?_
    clear H15 a14
    refine wl_off (d := 8) H16 rfl rfl rfl rfl rfl rfl fun a16 H17 => ?_
    clear H16 a15
    refine wl1 H17 (r_pick_t rfl rfl) rfl rfl rfl rfl fun a17 H18 => ?_
    clear H17 a16
    refine wl1 H18 (r_move rfl) rfl rfl rfl rfl fun a18 H19 => ?_
    clear H18 a17
    refine wl_off (d := 19) H19 rfl rfl rfl rfl rfl rfl fun a19 H20 => ?_
    clear H19 a18
    refine wl_off (d := 19) H20 rfl rfl rfl rfl rfl rfl fun a20 H21 => ?_
    clear H20 a19
    refine wl_off (d := 19) H21 rfl rfl rfl rfl rfl rfl fun a21 H22 => ?_
    clear H21 a20
    refine wl1 H22 (r_pick_t rfl rfl) rfl rfl rfl rfl fun a22 H23 => ?_
    clear H22 a21
    refine wl1 H23 (r_move rfl) rfl rfl rfl rfl fun a23 H24 => ?_
    clear H23 a22
    refine wl_off (d := 24) H24 rfl rfl rfl rfl rfl rfl fun a24 H25 => ?_
    clear H24 a23
    refine wl_off (d := 24) H25 rfl rfl rfl rfl rfl rfl fun a25 H26 => ?_
    clear H25 a24
    refine wl_off (d := 24) H26 rfl rfl rfl rfl rfl rfl fun a26 H27 => ?_
    clear H26 a25
    refine wl_off (d := 24) H27 rfl rfl rfl rfl rfl rfl fun a27 H28 => ?_
    clear H27 a26
    refine wl_off (d := 24) H28 rfl rfl rfl rfl rfl rfl fun a28 H29 => ?_
    clear H28 a27
    refine wl_off (d := 24) H29 rfl rfl rfl rfl rfl rfl fun a29 H30 => ?_
    clear H29 a28
    refine wl_off (d := 24) H30 rfl rfl rfl rfl rfl rfl fun a30 H31 => ?_
    clear H30 a29
    refine wl_off (d := 24) H31 rfl rfl rfl rfl rfl rfl fun a31 H32 => ?_
    clear H31 a30
    refine wl_off (d := 24) H32 rfl rfl rfl rfl rfl rfl fun a32 H33 => ?_
    clear H32 a31
    refine wl1 H33 (r_pick_t rfl rfl) rfl rfl rfl rfl fun a33 H34 => ?_
    clear H33 a32
    refine wl1 H34 (r_move rfl) rfl rfl rfl rfl fun a34 H35 => ?_
    clear H34 a33
    refine wl_off (d := 35) H35 rfl rfl rfl rfl rfl rfl fun a35 H36 => ?_
    clear H35 a34
    refine wl_off (d := 35) H36 rfl rfl rfl rfl rfl rfl fun a36 H37 => ?_
    clear H36 a35
    refine wl_off (d := 35) H37 rfl rfl rfl rfl rfl rfl fun a37 H38 => ?_
    clear H37 a36
    refine wl_off (d := 35) H38 rfl rfl rfl rfl rfl rfl fun a38 H39 => ?_
    clear H38 a37
    refine wl1 H39 (r_pick_t rfl rfl) rfl rfl rfl rfl fun a39 H40 => ?_
    clear H39 a38
    refine wl_end ?_
    refine th_n ?_
    refine w_tt H40 rfl rfl ?_
    refine wpIn_seq ?_
    refine w_reg ?_
    refine wl1 H40 (r_assign rfl) rfl rfl rfl rfl fun a40 H41 => ?_
    clear H40 a39
    refine wl_end ?_
    refine th_n ?_
    refine wpIn_ret ?_
    refine th_r ?_
    refine fin_r H41 (res1 rfl H41 rfl) ?_
    refine ⟨?_, hN.gr⟩
    first
      | (rw [show decide (lacc x p) = false from decide_eq_false (by unfold lacc; omega)])
      | (congr 1
         rw [decide_eq_decide]
         unfold lacc
         constructor
         · intro h; exact ⟨by omega, h⟩
         · intro h; exact h.2)
  ·
    clear H7
    try simp only [decide_eq_true_eq, decide_eq_false_iff_not, Bool.or_eq_true, Bool.and_eq_true, Bool.or_eq_false_iff, Bool.and_eq_false_iff, Bool.not_eq_true', Bool.not_eq_false', Int.not_lt, Int.not_le, ne_eq, Decidable.not_not] at hg1_3
    refine wl_on (d := 8) H8 rfl rfl rfl ?_
    refine wl1 H8 (r_fld fld28_0 rfl) rfl rfl rfl rfl fun a8 H42 => ?_
    clear H8 a7
    refine wl_on (d := 8) H42 rfl rfl rfl ?_
    refine wl1 H42 (r_load sc3 rfl (hB3.cell rfl)) rfl rfl rfl rfl fun a9 H43 => ?_
    clear H42 a8
    refine wl_on (d := 8) H43 rfl rfl rfl ?_
    refine wl1 H43 (r_lss rfl rfl) rfl rfl rfl rfl fun a10 H44 => ?_
    clear H43 a9
    refine wl_on (d := 8) H44 rfl rfl rfl ?_
    refine wl1 H44 (r_move rfl) rfl rfl rfl rfl fun a11 H45 => ?_
    clear H44 a10
    refine wl_split (t := 12) H45 rfl (fun hg1_7 H46 => ?_) (fun hg1_7 H46 => ?_)
    ·
      clear H45
      try simp only [decide_eq_true_eq, decide_eq_false_iff_not, Bool.or_eq_true, Bool.and_eq_true, Bool.or_eq_false_iff, Bool.and_eq_false_iff, Bool.not_eq_true', Bool.not_eq_false', Int.not_lt, Int.not_le, ne_eq, Decidable.not_not] at hg1_7
      refine wl_on (d := 12) H46 rfl rfl rfl ?_
      refine wl1 H46 (r_fld fld28_2 rfl) rfl rfl rfl rfl fun a12 H47 => ?_
      clear H46 a11
      refine wl_on (d := 12) H47 rfl rfl rfl ?_
      refine wl1 H47 (r_load sc23 rfl (hB3.cell rfl)) rfl rfl rfl rfl fun a13 H48 => ?_
      clear H47 a12
      refine wl_on (d := 12) H48 rfl rfl rfl ?_
      refine wl1 H48 (r_len Try.underlying23 rfl) rfl rfl rfl rfl fun a14 H49 => ?_
      clear H48 a13
      refine wl_on (d := 12) H49 rfl rfl rfl ?_
      refine wl1 H49 (r_gtr rfl rfl) rfl rfl rfl rfl fun a15 H50 => ?_
      clear H49 a14
      refine wl_on (d := 8) H50 rfl rfl rfl ?_
      refine wl1 H50 (r_pick_t rfl rfl) rfl rfl rfl rfl fun a16 H51 => ?_
      clear H50 a15
      refine wl1 H51 (r_pick_f rfl rfl) rfl rfl rfl rfl fun a17 H52 => ?_
      clear H51 a16
      refine wl1 H52 (r_move rfl) rfl rfl rfl rfl fun a18 H53 => ?_
      clear H52 a17
      refine wl_split (t := 19) H53 rfl (fun hg1_14 H54 => ?_) (fun hg1_14 H54 => ?_)
      ·
        clear H53
        try simp only [decide_eq_true_eq, decide_eq_false_iff_not, Bool.or_eq_true, Bool.and_eq_true, Bool.or_eq_false_iff, Bool.and_eq_false_iff, Bool.not_eq_true', Bool.not_eq_false', Int.not_lt, Int.not_le, ne_eq, Decidable.not_not] at hg1_14
        refine wl_off (d := 19) H54 rfl rfl rfl rfl rfl rfl fun a19 H55 => ?_
        clear H54 a18
        refine wl_off (d := 19) H55 rfl rfl rfl rfl rfl rfl fun a20 H56 => ?_
        clear H55 a19
        refine wl_off (d := 19) H56 rfl rfl rfl rfl rfl rfl fun a21 H57 => ?_
        clear H56 a20
        refine wl1 H57 (r_pick_t rfl rfl) rfl rfl rfl rfl fun a22 H58 => ?_
        clear H57 a21
        refine wl1 H58 (r_move rfl) rfl rfl rfl rfl fun a23 H59 => ?_
        clear H58 a22
        refine wl_off (d := 24) H59 rfl rfl rfl rfl rfl rfl fun a24 H60 => ?_
        clear H59 a23
        refine wl_off (d := 24) H60 rfl rfl rfl rfl rfl rfl fun a25 H61 => ?_
        clear H60 a24
        refine wl_off (d := 24) H61 rfl rfl rfl rfl rfl rfl fun a26 H62 => ?_
        clear H61 a25
        refine wl_off (d := 24) H62 rfl rfl rfl rfl rfl rfl fun a27 H63 => ?_
        clear H62 a26
        refine wl_off (d := 24) H63 rfl rfl rfl rfl rfl rfl fun a28 H64 => ?_
        clear H63 a27
        refine wl_off (d := 24) H64 rfl rfl rfl rfl rfl rfl fun a29 H65 => ?_
        clear H64 a28
        refine wl_off (d := 24) H65 rfl rfl rfl rfl rfl rfl fun a30 H66 => ?_
        clear H65 a29
        refine wl_off (d := 24) H66 rfl rfl rfl rfl rfl rfl fun a31 H67 => ?_
        clear H66 a30
        refine wl_off (d := 24) H67 rfl rfl rfl rfl rfl rfl fun a32 H68 => ?_
        clear H67 a31
        refine wl1 H68 (r_pick_t rfl rfl) rfl rfl rfl rfl fun a33 H69 => ?_
        clear H68 a32
        refine wl1 H69 (r_move rfl) rfl rfl rfl rfl fun a34 H70 => ?_
        clear H69 a33
        refine wl_off (d := 35) H70 rfl rfl rfl rfl rfl rfl fun a35 H71 => ?_
        clear H70 a34
        refine wl_off (d := 35) H71 rfl rfl rfl rfl rfl rfl fun a36 H72 => ?_
        clear H71 a35
        refine wl_off (d := 35) H72 rfl rfl rfl rfl rfl rfl fun a37 H73 => ?_
        clear H72 a36
        refine wl_off (d := 35) H73 rfl rfl rfl rfl rfl rfl fun a38 H74 => ?_
        clear H73 a37
        refine wl1 H74 (r_pick_t rfl rfl) rfl rfl rfl rfl fun a39 H75 => ?_
        clear H74 a38
        refine wl_end ?_
        refine th_n ?_
        refine w_tt H75 rfl rfl ?_
        refine wpIn_seq ?_
        refine w_reg ?_
        refine wl1 H75 (r_assign rfl) rfl rfl rfl rfl fun a40 H76 => ?_
        clear H75 a39
        refine wl_end ?_
        refine th_n ?_
        refine wpIn_ret ?_
        refine th_r ?_
        refine fin_r H76 (res1 rfl H76 rfl) ?_
        refine ⟨?_, hN.gr⟩
        first
          | (rw [show decide (lacc x p) = false from decide_eq_false (by unfold lacc; omega)])
          | (congr 1
             rw [decide_eq_decide]
             unfold lacc
             constructor
             · intro h; exact ⟨by omega, h⟩
             · intro h; exact h.2)
      ·
        clear H53
        try simp only [decide_eq_true_eq, decide_eq_false_iff_not, Bool.or_eq_true, Bool.and_eq_true, Bool.or_eq_false_iff, Bool.and_eq_false_iff, Bool.not_eq_true', Bool.not_eq_false', Int.not_lt, Int.not_le, ne_eq, Decidable.not_not] at hg1_14
        refine wl_on (d := 19) H54 rfl rfl rfl ?_
        refine wl1 H54 (r_fld fld28_1 rfl) rfl rfl rfl rfl fun a19 H77 => ?_
        clear H54 a18
        refine wl_on (d := 19) H77 rfl rfl rfl ?_
        refine wl1 H77 (r_load sc3 rfl (hB3.cell rfl)) rfl rfl rfl rfl fun a20 H78 => ?_
        clear H77 a19
        refine wl_on (d := 19) H78 rfl rfl rfl ?_
        refine wl1 H78 (r_lss rfl rfl) rfl rfl rfl rfl fun a21 H79 => ?_
        clear H78 a20
        refine wl1 H79 (r_pick_f rfl rfl) rfl rfl rfl rfl fun a22 H80 => ?_
        clear H79 a21
        refine wl1 H80 (r_move rfl) rfl rfl rfl rfl fun a23 H81 => ?_
        clear H80 a22
        refine wl_split (t := 24) H81 rfl (fun hg1_19 H82 => ?_) (fun hg1_19 H82 => ?_)
        ·
          clear H81
          try simp only [decide_eq_true_eq, decide_eq_false_iff_not, Bool.or_eq_true, Bool.and_eq_true, Bool.or_eq_false_iff, Bool.and_eq_false_iff, Bool.not_eq_true', Bool.not_eq_false', Int.not_lt, Int.not_le, ne_eq, Decidable.not_not] at hg1_19
          refine wl_off (d := 24) H82 rfl rfl rfl rfl rfl rfl fun a24 H83 => ?_
          clear H82 a23
          refine wl_off (d := 24) H83 rfl rfl rfl rfl rfl rfl fun a25 H84 => ?_
          clear H83 a24
          refine wl_off (d := 24) H84 rfl rfl rfl rfl rfl rfl fun a26 H85 => ?_
          clear H84 a25
          refine wl_off (d := 24) H85 rfl rfl rfl rfl rfl rfl fun a27 H86 => ?_
          clear H85 a26
          refine wl_off (d := 24) H86 rfl rfl rfl rfl rfl rfl fun a28 H87 => ?_
          clear H86 a27
          refine wl_off (d := 24) H87 rfl rfl rfl rfl rfl rfl fun a29 H88 => ?_
          clear H87 a28
          refine wl_off (d := 24) H88 rfl rfl rfl rfl rfl rfl fun a30 H89 => ?_
          clear H88 a29
          refine wl_off (d := 24) H89 rfl rfl rfl rfl rfl rfl fun a31 H90 => ?_
          clear H89 a30
          refine wl_off (d := 24) H90 rfl rfl rfl rfl rfl rfl fun a32 H91 => ?_
          clear H90 a31
          refine wl1 H91 (r_pick_t rfl rfl) rfl rfl rfl rfl fun a33 H92 => ?_
          clear H91 a32
          refine wl1 H92 (r_move rfl) rfl rfl rfl rfl fun a34 H93 => ?_
          clear H92 a33
          refine wl_off (d := 35) H93 rfl rfl rfl rfl rfl rfl fun a35 H94 => ?_
          clear H93 a34
          refine wl_off (d := 35) H94 rfl rfl rfl rfl rfl rfl fun a36 H95 => ?_
          clear H94 a35
          refine wl_off (d := 35) H95 rfl rfl rfl rfl rfl rfl fun a37 H96 => ?_
          clear H95 a36
          refine wl_off (d := 35) H96 rfl rfl rfl rfl rfl rfl fun a38 H97 => ?_
          clear H96 a37
          refine wl1 H97 (r_pick_t rfl rfl) rfl rfl rfl rfl fun a39 H98 => ?_
          clear H97 a38
          refine wl_end ?_
          refine th_n ?_
          refine w_tt H98 rfl rfl ?_
          refine wpIn_seq ?_
          refine w_reg ?_
          refine wl1 H98 (r_assign rfl) rfl rfl rfl rfl fun a40 H99 => ?_
          clear H98 a39
          refine wl_end ?_
          refine th_n ?_
          refine wpIn_ret ?_
          refine th_r ?_
          refine fin_r H99 (res1 rfl H99 rfl) ?_
          refine ⟨?_, hN.gr⟩
          first
            | (rw [show decide (lacc x p) = false from decide_eq_false (by unfold lacc; omega)])
            | (congr 1
               rw [decide_eq_decide]
               unfold lacc
               constructor
               · intro h; exact ⟨by omega, h⟩
               · intro h; exact h.2)
        ·
          clear H81
          try simp only [decide_eq_true_eq, decide_eq_false_iff_not, Bool.or_eq_true, Bool.and_eq_true, Bool.or_eq_false_iff, Bool.and_eq_false_iff, Bool.not_eq_true', Bool.not_eq_false', Int.not_lt, Int.not_le, ne_eq, Decidable.not_not] at hg1_19
          refine wl_on (d := 24) H82 rfl rfl rfl ?_
          refine wl1 H82 (r_fld fld28_1 rfl) rfl rfl rfl rfl fun a24 H100 => ?_
          clear H82 a23
          refine wl_on (d := 24) H100 rfl rfl rfl ?_
          refine wl1 H100 (r_load sc3 rfl (hB3.cell rfl)) rfl rfl rfl rfl fun a25 H101 => ?_
          clear H100 a24
          refine wl_on (d := 24) H101 rfl rfl rfl ?_
          refine wl1 H101 (r_fld fld26_2 rfl) rfl rfl rfl rfl fun a26 H102 => ?_
          clear H101 a25
          refine wl_on (d := 24) H102 rfl rfl rfl ?_
          refine wl1 H102 (r_load sc3 rfl (hB2.cell rfl)) rfl rfl rfl rfl fun a27 H103 => ?_
          clear H102 a26
          refine wl_on (d := 24) H103 rfl rfl rfl ?_
          first | refine wl1 H103 (r_subk rfl rfl (by simp only [InK]; omega)) rfl rfl rfl rfl fun a28 H104 => ?_ | refine wl1 H103 (r_sub rfl rfl) rfl rfl rfl rfl fun a28 H104 => ?_
          clear H103 a27
          refine wl_on (d := 24) H104 rfl rfl rfl ?_
          refine wl1 H104 (r_fld fld26_1 rfl) rfl rfl rfl rfl fun a29 H105 => ?_
          clear H104 a28
          refine wl_on (d := 24) H105 rfl rfl rfl ?_
          refine wl1 H105 (r_load sc24 rfl (hB2.cell rfl)) rfl rfl rfl rfl fun a30 H106 => ?_
          clear H105 a29
          refine wl_on (d := 24) H106 rfl rfl rfl ?_
          refine wl1 H106 (r_len Try.underlying24 rfl) rfl rfl rfl rfl fun a31 H107 => ?_
          clear H106 a30
          refine wl_on (d := 24) H107 rfl rfl rfl ?_
          refine wl1 H107 (r_gtr rfl rfl) rfl rfl rfl rfl fun a32 H108 => ?_
          clear H107 a31
          refine wl1 H108 (r_pick_f rfl rfl) rfl rfl rfl rfl fun a33 H109 => ?_
          clear H108 a32
          refine wl1 H109 (r_move rfl) rfl rfl rfl rfl fun a34 H110 => ?_
          clear H109 a33
          refine wl_split (t := 35) H110 rfl (fun hg1_30 H111 => ?_) (fun hg1_30 H111 => ?_)
          ·
            clear H110
            try simp only [decide_eq_true_eq, decide_eq_false_iff_not, Bool.or_eq_true, Bool.and_eq_true, Bool.or_eq_false_iff, Bool.and_eq_false_iff, Bool.not_eq_true', Bool.not_eq_false', Int.not_lt, Int.not_le, ne_eq, Decidable.not_not] at hg1_30
            refine wl_off (d := 35) H111 rfl rfl rfl rfl rfl rfl fun a35 H112 => ?_
            clear H111 a34
            refine wl_off (d := 35) H112 rfl rfl rfl rfl rfl rfl fun a36 H113 => ?_
            clear H112 a35
            refine wl_off (d := 35) H113 rfl rfl rfl rfl rfl rfl fun a37 H114 => ?_
            clear H113 a36
            refine wl_off (d := 35) H114 rfl rfl rfl rfl rfl rfl fun a38 H115 => ?_
            clear H114 a37
            refine wl1 H115 (r_pick_t rfl rfl) rfl rfl rfl rfl fun a39 H116 => ?_
            clear H115 a38
            refine wl_end ?_
            refine th_n ?_
            refine w_tt H116 rfl rfl ?_
            refine wpIn_seq ?_
            refine w_reg ?_
            refine wl1 H116 (r_assign rfl) rfl rfl rfl rfl fun a40 H117 => ?_
            clear H116 a39
            refine wl_end ?_
            refine th_n ?_
            refine wpIn_ret ?_
            refine th_r ?_
            refine fin_r H117 (res1 rfl H117 rfl) ?_
            refine ⟨?_, hN.gr⟩
            first
              | (rw [show decide (lacc x p) = false from decide_eq_false (by unfold lacc; omega)])
              | (congr 1
                 rw [decide_eq_decide]
                 unfold lacc
                 constructor
                 · intro h; exact ⟨by omega, h⟩
                 · intro h; exact h.2)
          ·
            clear H110
            try simp only [decide_eq_true_eq, decide_eq_false_iff_not, Bool.or_eq_true, Bool.and_eq_true, Bool.or_eq_false_iff, Bool.and_eq_false_iff, Bool.not_eq_true', Bool.not_eq_false', Int.not_lt, Int.not_le, ne_eq, Decidable.not_not] at hg1_30
            refine wl_on (d := 35) H111 rfl rfl rfl ?_
            refine wl1 H111 (r_fld fld28_2 rfl) rfl rfl rfl rfl fun a35 H118 => ?_
            clear H111 a34
            refine wl_on (d := 35) H118 rfl rfl rfl ?_
            refine wl1 H118 (r_load sc23 rfl (hB3.cell rfl)) rfl rfl rfl rfl fun a36 H119 => ?_
            clear H118 a35
            refine wl_on (d := 35) H119 rfl rfl rfl ?_
            refine wl1 H119 (r_len Try.underlying23 rfl) rfl rfl rfl rfl fun a37 H120 => ?_
            clear H119 a36
            refine wl_on (d := 35) H120 rfl rfl rfl ?_
            refine wl1 H120 (r_gtr rfl rfl) rfl rfl rfl rfl fun a38 H121 => ?_
            clear H120 a37
            refine wl1 H121 (r_pick_f rfl rfl) rfl rfl rfl rfl fun a39 H122 => ?_
            clear H121 a38
            refine wl_end ?_
            refine th_n ?_
            first | refine w_if H122 rfl (fun hc40 => ?_) (fun hc40 => ?_) | refine w_cond H122 rfl (fun hc40 => ?_) (fun hc40 => ?_)
            ·
              try simp only [decide_eq_true_eq, decide_eq_false_iff_not, Bool.or_eq_true, Bool.and_eq_true, Bool.or_eq_false_iff, Bool.and_eq_false_iff, Bool.not_eq_true', Bool.not_eq_false', Int.not_lt, Int.not_le, ne_eq, Decidable.not_not] at hc40
              refine wpIn_seq ?_
              refine w_reg ?_
              refine wl1 H122 (r_assign rfl) rfl rfl rfl rfl fun a40 H123 => ?_
              clear H122 a39
              refine wl_end ?_
              refine th_n ?_
              refine wpIn_ret ?_
              refine th_r ?_
              refine fin_r H123 (res1 rfl H123 rfl) ?_
              refine ⟨?_, hN.gr⟩
              first
                | (rw [show decide (lacc x p) = false from decide_eq_false (by unfold lacc; omega)])
                | (congr 1
                   rw [decide_eq_decide]
                   unfold lacc
                   constructor
                   · intro h; exact ⟨by omega, h⟩
                   · intro h; exact h.2)
            ·
              try simp only [decide_eq_true_eq, decide_eq_false_iff_not, Bool.or_eq_true, Bool.and_eq_true, Bool.or_eq_false_iff, Bool.and_eq_false_iff, Bool.not_eq_true', Bool.not_eq_false', Int.not_lt, Int.not_le, ne_eq, Decidable.not_not] at hc40
              have hdl : p.data.length ≤ 256 := by omega
              refine wpIn_skip ?_
              refine th_n ?_
              refine wpIn_seq ?_
              have hS0 := hN.sat
              have hNsz3 := hN.gr.size
              refine w_drawE (m := 15) (l0 := [(2, _), (3, _), (4, _)]) hfol H122 ⟨rfl, rfl, rfl, trivial⟩ (by kernel_rfl) ?_
              refine ⟨_, false, (fun σ ι w1 hg hd hon => by
                  exact OpOK.sub (r := [(2, _), (3, _), (4, _)]) ⟨rfl, rfl, rfl, trivial⟩ (by
                    exact OpOK.eq (r_fld fld28_3 rfl))
                  ), (fun _ _ _ _ _ _ h => h), (FreeR.no _), ?_⟩
              refine ⟨_, false, (fun σ ι w1 hg hd hon => by
                  have hN := hN.ofGr ((Gr.refl _).drew.trans hg)
                  have hB2 := hB2.gr ((Gr.refl _).drew.trans hg)
                  have hB3 := hB3.gr ((Gr.refl _).drew.trans hg)
                  have f0 := hd 0 (by decide) _ rfl
                  have e0 : σ 0 = _ := f0.1 trivial
                  exact OpOK.sub (r := [(41, _), (2, _), (3, _), (4, _)]) ⟨congrArg some e0, rfl, rfl, rfl, trivial⟩ (by
                    exact OpOK.eq (r_load sc22 rfl (hB3.cell rfl)))
                  ), (fun _ _ _ _ _ _ h => h), (FreeR.no _), ?_⟩
              refine ⟨_, false, (fun σ ι w1 hg hd hon => by
                  exact OpOK.sub (r := [(2, _), (3, _), (4, _)]) ⟨rfl, rfl, rfl, trivial⟩ (by
                    exact OpOK.eq (r_fld fld26_0 rfl))
                  ), (fun _ _ _ _ _ _ h => h), (FreeR.no _), ?_⟩
              refine ⟨_, false, (fun σ ι w1 hg hd hon => by
                  have hN := hN.ofGr ((Gr.refl _).drew.trans hg)
                  have hB2 := hB2.gr ((Gr.refl _).drew.trans hg)
                  have hB3 := hB3.gr ((Gr.refl _).drew.trans hg)
                  have f2 := hd 2 (by decide) _ rfl
                  have e2 : σ 2 = _ := f2.1 trivial
                  exact OpOK.sub (r := [(43, _), (2, _), (3, _), (4, _)]) ⟨congrArg some e2, rfl, rfl, rfl, trivial⟩ (by
                    exact OpOK.eq (r_load sc22 rfl (hB2.cell rfl)))
                  ), (fun _ _ _ _ _ _ h => h), (FreeR.no _), ?_⟩
              refine ⟨_, false, (fun σ ι w1 hg hd hon => by
                  exact OpOK.sub (r := [(2, _), (3, _), (4, _)]) ⟨rfl, rfl, rfl, trivial⟩ (by
                    exact OpOK.eq (r_fld fld28_2 rfl))
                  ), (fun _ _ _ _ _ _ h => h), (FreeR.no _), ?_⟩
              refine ⟨_, false, (fun σ ι w1 hg hd hon => by
                  have hN := hN.ofGr ((Gr.refl _).drew.trans hg)
                  have hB2 := hB2.gr ((Gr.refl _).drew.trans hg)
                  have hB3 := hB3.gr ((Gr.refl _).drew.trans hg)
                  have f4 := hd 4 (by decide) _ rfl
                  have e4 : σ 4 = _ := f4.1 trivial
                  exact OpOK.sub (r := [(45, _), (2, _), (3, _), (4, _)]) ⟨congrArg some e4, rfl, rfl, rfl, trivial⟩ (by
                    exact OpOK.eq (r_load sc23 rfl (hB3.cell rfl)))
                  ), (fun _ _ _ _ _ _ h => h), (FreeR.no _), ?_⟩
              refine ⟨_, false, (fun σ ι w1 hg hd hon => by
                  exact OpOK.sub (r := [(2, _), (3, _), (4, _)]) ⟨rfl, rfl, rfl, trivial⟩ (by
                    exact OpOK.eq (r_fld fld28_0 rfl))
                  ), (fun _ _ _ _ _ _ h => h), (FreeR.no _), ?_⟩
              refine ⟨_, false, (fun σ ι w1 hg hd hon => by
                  have hN := hN.ofGr ((Gr.refl _).drew.trans hg)
                  have hB2 := hB2.gr ((Gr.refl _).drew.trans hg)
                  have hB3 := hB3.gr ((Gr.refl _).drew.trans hg)
                  have f6 := hd 6 (by decide) _ rfl
                  have e6 : σ 6 = _ := f6.1 trivial
                  exact OpOK.sub (r := [(47, _), (2, _), (3, _), (4, _)]) ⟨congrArg some e6, rfl, rfl, rfl, trivial⟩ (by
                    exact OpOK.eq (r_load sc3 rfl (hB3.cell rfl)))
                  ), (fun _ _ _ _ _ _ h => h), (FreeR.no _), ?_⟩
              refine ⟨_, false, (fun σ ι w1 hg hd hon => by
                  exact OpOK.sub (r := [(2, _), (3, _), (4, _)]) ⟨rfl, rfl, rfl, trivial⟩ (by
                    exact OpOK.eq (r_fld fld28_1 rfl))
                  ), (fun _ _ _ _ _ _ h => h), (FreeR.no _), ?_⟩
              refine ⟨_, false, (fun σ ι w1 hg hd hon => by
                  have hN := hN.ofGr ((Gr.refl _).drew.trans hg)
                  have hB2 := hB2.gr ((Gr.refl _).drew.trans hg)
                  have hB3 := hB3.gr ((Gr.refl _).drew.trans hg)
                  have f8 := hd 8 (by decide) _ rfl
                  have e8 : σ 8 = _ := f8.1 trivial
                  exact OpOK.sub (r := [(49, _), (2, _), (3, _), (4, _)]) ⟨congrArg some e8, rfl, rfl, rfl, trivial⟩ (by
                    exact OpOK.eq (r_load sc3 rfl (hB3.cell rfl)))
                  ), (fun _ _ _ _ _ _ h => h), (FreeR.no _), ?_⟩
              refine ⟨_, false, (fun σ ι w1 hg hd hon => by
                  exact OpOK.sub (r := [(2, _), (3, _), (4, _)]) ⟨rfl, rfl, rfl, trivial⟩ (by
                    exact OpOK.eq (r_fld fld28_2 rfl))
                  ), (fun _ _ _ _ _ _ h => h), (FreeR.no _), ?_⟩
              refine ⟨_, false, (fun σ ι w1 hg hd hon => by
                  have hN := hN.ofGr ((Gr.refl _).drew.trans hg)
                  have hB2 := hB2.gr ((Gr.refl _).drew.trans hg)
                  have hB3 := hB3.gr ((Gr.refl _).drew.trans hg)
                  have f10 := hd 10 (by decide) _ rfl
                  have e10 : σ 10 = _ := f10.1 trivial
                  exact OpOK.sub (r := [(51, _), (2, _), (3, _), (4, _)]) ⟨congrArg some e10, rfl, rfl, rfl, trivial⟩ (by
                    exact OpOK.eq (r_load sc23 rfl (hB3.cell rfl)))
                  ), (fun _ _ _ _ _ _ h => h), (FreeR.no _), ?_⟩
              refine ⟨_, false, (fun σ ι w1 hg hd hon => by
                  have f11 := hd 11 (by decide) _ rfl
                  have e11 : σ 11 = _ := f11.1 trivial
                  exact OpOK.sub (r := [(52, _), (2, _), (3, _), (4, _)]) ⟨congrArg some e11, rfl, rfl, rfl, trivial⟩ (by
                    exact OpOK.eq (r_len Try.underlying23 rfl))
                  ), (fun _ _ _ _ _ _ h => h), (FreeR.no _), ?_⟩
              refine ⟨_, false, (fun σ ι w1 hg hd hon => by
                  have hN := hN.ofGr ((Gr.refl _).drew.trans hg)
                  have hB2 := hB2.gr ((Gr.refl _).drew.trans hg)
                  have hB3 := hB3.gr ((Gr.refl _).drew.trans hg)
                  have f7 := hd 7 (by decide) _ rfl
                  have f9 := hd 9 (by decide) _ rfl
                  have f12 := hd 12 (by decide) _ rfl
                  have e7 : σ 7 = _ := f7.1 trivial
                  have e9 : σ 9 = _ := f9.1 trivial
                  have e12 : σ 12 = _ := f12.1 trivial
                  exact OpOK.sub (r := [(48, _), (50, _), (53, _), (2, _), (3, _), (4, _)]) ⟨congrArg some e7, congrArg some e9, congrArg some e12, rfl, rfl, rfl, trivial⟩ (by exact OpOK.litM (dk := (kInt .i64)) (J := I) (xs := [p.seq, p.ack, (p.data.length : Int)]) (cs := [.int .i64 p.seq, .int .i64 p.ack, .int .i64 p.data.length]) Try.underlying78 sz3 zv3 (by rfl) (by rfl) (by rfl) (by simp [Value.oneCell']) hN.sat (Row.nums (xs := [p.seq, p.ack, (p.data.length : Int)]) (by simp only [List.mem_cons, List.not_mem_nil, or_false, InK]; rintro y (rfl | rfl | rfl) <;> omega)) (by simp))
                  ), (by exact monoOwn (J := I) (Φ := fun _ K u => ∃ b, u = .slice (some ⟨b, 0, none⟩) 3 3 ∧ Els ((kInt .i64)) K (some ⟨b, 0, none⟩) ([p.seq, p.ack, (p.data.length : Int)]))), (FreeR.no _), ?_⟩
              refine ⟨_, true, (fun σ ι w1 hg hd hon => by
                  have hN := hN.ofGr ((Gr.refl _).drew.trans hg)
                  have hB2 := hB2.gr ((Gr.refl _).drew.trans hg)
                  have hB3 := hB3.gr ((Gr.refl _).drew.trans hg)
                  have f3 := hd 3 (by decide) _ rfl
                  have f5 := hd 5 (by decide) _ rfl
                  have f13 := hd 13 (by decide) _ rfl
                  have e3 : σ 3 = _ := f3.1 trivial
                  have e5 : σ 5 = _ := f5.1 trivial
                  have e13 := f13.1 trivial
                  obtain ⟨K13, hP13, b13, e13, hE13⟩ := e13
                  skip
                  exact CallOK.sub (r := [(44, _), (46, _), (54, _), (2, _), (3, _), (4, _)]) ⟨congrArg some e3, congrArg some e5, congrArg some e13, rfl, rfl, rfl, trivial⟩ (by
                    exact CallOK.V (enters_of rfl rfl hb58) (ttag hP13.sat (hP.de.up hP13.le) hE13 rfl (by simp; omega)))
                  ), (fun _ _ _ _ _ _ h => h), (fun _ _ _ _ _ _ h => h), ?_⟩
              intro σ ι a40 w4 hgw4 H124 hd hap
              skip
              have hN0 := hN
              have hN := hN.ofGr ((Gr.refl _).drew.trans hgw4)
              have hNd := (New.refl (hS0.drewS)).ofGr hgw4
              obtain ⟨K13, hP13, b13, e13, hE13⟩ := (hd 13 (by decide) _ rfl).1 trivial
              replace hE13 := hE13.up (joinI_right hNd.sat hP13.sat)
              replace hNd := hNd.part hNd.le hP13 (hap.1 13 (by decide)).1
              replace hB2 := (hB2.gr (Gr.refl _).drew).next hNd
              replace hB3 := (hB3.gr (Gr.refl _).drew).next hNd
              replace hL := hL.up hNd.le
              replace hP := hP.up hNd.le
              have hN := hN0.drew.trans hNd
              have e1 : σ 1 = _ := (hd 1 (by decide) _ rfl).1 trivial
              have e14 : σ 14 = _ := (hd 14 (by decide) _ rfl).1 trivial
              replace H124 := H124.sub (r := [(42, _), (55, _), (2, _), (3, _), (4, _)]) ⟨congrArg some e1, congrArg some e14, rfl, rfl, rfl, trivial⟩
              clear hd
              clear hap
              refine wl1 H124 (r_eql rfl rfl) rfl rfl rfl rfl fun a41 H125 => ?_
              clear H124 a40
              refine wl1 H125 (r_assign rfl) rfl rfl rfl rfl fun a42 H126 => ?_
              clear H125 a41
              refine wl_end ?_
              refine th_n ?_
              refine wpIn_ret ?_
              refine fin_r H126 (res1 rfl H126 rfl) ?_
              refine ⟨?_, hN.gr⟩
              first
                | (rw [show decide (lacc x p) = false from decide_eq_false (by unfold lacc; omega)])
                | (congr 1
                   rw [decide_eq_decide]
                   unfold lacc
                   constructor
                   · intro h; exact ⟨by omega, h⟩
                   · intro h; exact h.2)
    ·
      clear H45
      try simp only [decide_eq_true_eq, decide_eq_false_iff_not, Bool.or_eq_true, Bool.and_eq_true, Bool.or_eq_false_iff, Bool.and_eq_false_iff, Bool.not_eq_true', Bool.not_eq_false', Int.not_lt, Int.not_le, ne_eq, Decidable.not_not] at hg1_7
      refine wl_off (d := 12) H46 rfl rfl rfl rfl rfl rfl fun a12 H127 => ?_
      clear H46 a11
      refine wl_off (d := 12) H127 rfl rfl rfl rfl rfl rfl fun a13 H128 => ?_
      clear H127 a12
      refine wl_off (d := 12) H128 rfl rfl rfl rfl rfl rfl fun a14 H129 => ?_
      clear H128 a13
      refine wl_off (d := 12) H129 rfl rfl rfl rfl rfl rfl fun a15 H130 => ?_
      clear H129 a14
      refine wl_on (d := 8) H130 rfl rfl rfl ?_
      refine wl1 H130 (r_pick_f rfl rfl) rfl rfl rfl rfl fun a16 H131 => ?_
      clear H130 a15
      refine wl1 H131 (r_pick_f rfl rfl) rfl rfl rfl rfl fun a17 H132 => ?_
      clear H131 a16
      refine wl1 H132 (r_move rfl) rfl rfl rfl rfl fun a18 H133 => ?_
      clear H132 a17
      refine wl_on (d := 19) H133 rfl rfl rfl ?_
      refine wl1 H133 (r_fld fld28_1 rfl) rfl rfl rfl rfl fun a19 H134 => ?_
      clear H133 a18
      refine wl_on (d := 19) H134 rfl rfl rfl ?_
      refine wl1 H134 (r_load sc3 rfl (hB3.cell rfl)) rfl rfl rfl rfl fun a20 H135 => ?_
      clear H134 a19
      refine wl_on (d := 19) H135 rfl rfl rfl ?_
      refine wl1 H135 (r_lss rfl rfl) rfl rfl rfl rfl fun a21 H136 => ?_
      clear H135 a20
      refine wl1 H136 (r_pick_f rfl rfl) rfl rfl rfl rfl fun a22 H137 => ?_
      clear H136 a21
      refine wl1 H137 (r_move rfl) rfl rfl rfl rfl fun a23 H138 => ?_
      clear H137 a22
      refine wl_split (t := 24) H138 rfl (fun hg1_19 H139 => ?_) (fun hg1_19 H139 => ?_)
      ·
        clear H138
        try simp only [decide_eq_true_eq, decide_eq_false_iff_not, Bool.or_eq_true, Bool.and_eq_true, Bool.or_eq_false_iff, Bool.and_eq_false_iff, Bool.not_eq_true', Bool.not_eq_false', Int.not_lt, Int.not_le, ne_eq, Decidable.not_not] at hg1_19
        refine wl_off (d := 24) H139 rfl rfl rfl rfl rfl rfl fun a24 H140 => ?_
        clear H139 a23
        refine wl_off (d := 24) H140 rfl rfl rfl rfl rfl rfl fun a25 H141 => ?_
        clear H140 a24
        refine wl_off (d := 24) H141 rfl rfl rfl rfl rfl rfl fun a26 H142 => ?_
        clear H141 a25
        refine wl_off (d := 24) H142 rfl rfl rfl rfl rfl rfl fun a27 H143 => ?_
        clear H142 a26
        refine wl_off (d := 24) H143 rfl rfl rfl rfl rfl rfl fun a28 H144 => ?_
        clear H143 a27
        refine wl_off (d := 24) H144 rfl rfl rfl rfl rfl rfl fun a29 H145 => ?_
        clear H144 a28
        refine wl_off (d := 24) H145 rfl rfl rfl rfl rfl rfl fun a30 H146 => ?_
        clear H145 a29
        refine wl_off (d := 24) H146 rfl rfl rfl rfl rfl rfl fun a31 H147 => ?_
        clear H146 a30
        refine wl_off (d := 24) H147 rfl rfl rfl rfl rfl rfl fun a32 H148 => ?_
        clear H147 a31
        refine wl1 H148 (r_pick_t rfl rfl) rfl rfl rfl rfl fun a33 H149 => ?_
        clear H148 a32
        refine wl1 H149 (r_move rfl) rfl rfl rfl rfl fun a34 H150 => ?_
        clear H149 a33
        refine wl_off (d := 35) H150 rfl rfl rfl rfl rfl rfl fun a35 H151 => ?_
        clear H150 a34
        refine wl_off (d := 35) H151 rfl rfl rfl rfl rfl rfl fun a36 H152 => ?_
        clear H151 a35
        refine wl_off (d := 35) H152 rfl rfl rfl rfl rfl rfl fun a37 H153 => ?_
        clear H152 a36
        refine wl_off (d := 35) H153 rfl rfl rfl rfl rfl rfl fun a38 H154 => ?_
        clear H153 a37
        refine wl1 H154 (r_pick_t rfl rfl) rfl rfl rfl rfl fun a39 H155 => ?_
        clear H154 a38
        refine wl_end ?_
        refine th_n ?_
        refine w_tt H155 rfl rfl ?_
        refine wpIn_seq ?_
        refine w_reg ?_
        refine wl1 H155 (r_assign rfl) rfl rfl rfl rfl fun a40 H156 => ?_
        clear H155 a39
        refine wl_end ?_
        refine th_n ?_
        refine wpIn_ret ?_
        refine th_r ?_
        refine fin_r H156 (res1 rfl H156 rfl) ?_
        refine ⟨?_, hN.gr⟩
        first
          | (rw [show decide (lacc x p) = false from decide_eq_false (by unfold lacc; omega)])
          | (congr 1
             rw [decide_eq_decide]
             unfold lacc
             constructor
             · intro h; exact ⟨by omega, h⟩
             · intro h; exact h.2)
      ·
        clear H138
        try simp only [decide_eq_true_eq, decide_eq_false_iff_not, Bool.or_eq_true, Bool.and_eq_true, Bool.or_eq_false_iff, Bool.and_eq_false_iff, Bool.not_eq_true', Bool.not_eq_false', Int.not_lt, Int.not_le, ne_eq, Decidable.not_not] at hg1_19
        refine wl_on (d := 24) H139 rfl rfl rfl ?_
        refine wl1 H139 (r_fld fld28_1 rfl) rfl rfl rfl rfl fun a24 H157 => ?_
        clear H139 a23
        refine wl_on (d := 24) H157 rfl rfl rfl ?_
        refine wl1 H157 (r_load sc3 rfl (hB3.cell rfl)) rfl rfl rfl rfl fun a25 H158 => ?_
        clear H157 a24
        refine wl_on (d := 24) H158 rfl rfl rfl ?_
        refine wl1 H158 (r_fld fld26_2 rfl) rfl rfl rfl rfl fun a26 H159 => ?_
        clear H158 a25
        refine wl_on (d := 24) H159 rfl rfl rfl ?_
        refine wl1 H159 (r_load sc3 rfl (hB2.cell rfl)) rfl rfl rfl rfl fun a27 H160 => ?_
        clear H159 a26
        refine wl_on (d := 24) H160 rfl rfl rfl ?_
        first | refine wl1 H160 (r_subk rfl rfl (by simp only [InK]; omega)) rfl rfl rfl rfl fun a28 H161 => ?_ | refine wl1 H160 (r_sub rfl rfl) rfl rfl rfl rfl fun a28 H161 => ?_
        clear H160 a27
        refine wl_on (d := 24) H161 rfl rfl rfl ?_
        refine wl1 H161 (r_fld fld26_1 rfl) rfl rfl rfl rfl fun a29 H162 => ?_
        clear H161 a28
        refine wl_on (d := 24) H162 rfl rfl rfl ?_
        refine wl1 H162 (r_load sc24 rfl (hB2.cell rfl)) rfl rfl rfl rfl fun a30 H163 => ?_
        clear H162 a29
        refine wl_on (d := 24) H163 rfl rfl rfl ?_
        refine wl1 H163 (r_len Try.underlying24 rfl) rfl rfl rfl rfl fun a31 H164 => ?_
        clear H163 a30
        refine wl_on (d := 24) H164 rfl rfl rfl ?_
        refine wl1 H164 (r_gtr rfl rfl) rfl rfl rfl rfl fun a32 H165 => ?_
        clear H164 a31
        refine wl1 H165 (r_pick_f rfl rfl) rfl rfl rfl rfl fun a33 H166 => ?_
        clear H165 a32
        refine wl1 H166 (r_move rfl) rfl rfl rfl rfl fun a34 H167 => ?_
        clear H166 a33
        refine wl_split (t := 35) H167 rfl (fun hg1_30 H168 => ?_) (fun hg1_30 H168 => ?_)
        ·
          clear H167
          try simp only [decide_eq_true_eq, decide_eq_false_iff_not, Bool.or_eq_true, Bool.and_eq_true, Bool.or_eq_false_iff, Bool.and_eq_false_iff, Bool.not_eq_true', Bool.not_eq_false', Int.not_lt, Int.not_le, ne_eq, Decidable.not_not] at hg1_30
          refine wl_off (d := 35) H168 rfl rfl rfl rfl rfl rfl fun a35 H169 => ?_
          clear H168 a34
          refine wl_off (d := 35) H169 rfl rfl rfl rfl rfl rfl fun a36 H170 => ?_
          clear H169 a35
          refine wl_off (d := 35) H170 rfl rfl rfl rfl rfl rfl fun a37 H171 => ?_
          clear H170 a36
          refine wl_off (d := 35) H171 rfl rfl rfl rfl rfl rfl fun a38 H172 => ?_
          clear H171 a37
          refine wl1 H172 (r_pick_t rfl rfl) rfl rfl rfl rfl fun a39 H173 => ?_
          clear H172 a38
          refine wl_end ?_
          refine th_n ?_
          refine w_tt H173 rfl rfl ?_
          refine wpIn_seq ?_
          refine w_reg ?_
          refine wl1 H173 (r_assign rfl) rfl rfl rfl rfl fun a40 H174 => ?_
          clear H173 a39
          refine wl_end ?_
          refine th_n ?_
          refine wpIn_ret ?_
          refine th_r ?_
          refine fin_r H174 (res1 rfl H174 rfl) ?_
          refine ⟨?_, hN.gr⟩
          first
            | (rw [show decide (lacc x p) = false from decide_eq_false (by unfold lacc; omega)])
            | (congr 1
               rw [decide_eq_decide]
               unfold lacc
               constructor
               · intro h; exact ⟨by omega, h⟩
               · intro h; exact h.2)
        ·
          clear H167
          try simp only [decide_eq_true_eq, decide_eq_false_iff_not, Bool.or_eq_true, Bool.and_eq_true, Bool.or_eq_false_iff, Bool.and_eq_false_iff, Bool.not_eq_true', Bool.not_eq_false', Int.not_lt, Int.not_le, ne_eq, Decidable.not_not] at hg1_30
          refine wl_on (d := 35) H168 rfl rfl rfl ?_
          refine wl1 H168 (r_fld fld28_2 rfl) rfl rfl rfl rfl fun a35 H175 => ?_
          clear H168 a34
          refine wl_on (d := 35) H175 rfl rfl rfl ?_
          refine wl1 H175 (r_load sc23 rfl (hB3.cell rfl)) rfl rfl rfl rfl fun a36 H176 => ?_
          clear H175 a35
          refine wl_on (d := 35) H176 rfl rfl rfl ?_
          refine wl1 H176 (r_len Try.underlying23 rfl) rfl rfl rfl rfl fun a37 H177 => ?_
          clear H176 a36
          refine wl_on (d := 35) H177 rfl rfl rfl ?_
          refine wl1 H177 (r_gtr rfl rfl) rfl rfl rfl rfl fun a38 H178 => ?_
          clear H177 a37
          refine wl1 H178 (r_pick_f rfl rfl) rfl rfl rfl rfl fun a39 H179 => ?_
          clear H178 a38
          refine wl_end ?_
          refine th_n ?_
          first | refine w_if H179 rfl (fun hc40 => ?_) (fun hc40 => ?_) | refine w_cond H179 rfl (fun hc40 => ?_) (fun hc40 => ?_)
          ·
            try simp only [decide_eq_true_eq, decide_eq_false_iff_not, Bool.or_eq_true, Bool.and_eq_true, Bool.or_eq_false_iff, Bool.and_eq_false_iff, Bool.not_eq_true', Bool.not_eq_false', Int.not_lt, Int.not_le, ne_eq, Decidable.not_not] at hc40
            refine wpIn_seq ?_
            refine w_reg ?_
            refine wl1 H179 (r_assign rfl) rfl rfl rfl rfl fun a40 H180 => ?_
            clear H179 a39
            refine wl_end ?_
            refine th_n ?_
            refine wpIn_ret ?_
            refine th_r ?_
            refine fin_r H180 (res1 rfl H180 rfl) ?_
            refine ⟨?_, hN.gr⟩
            first
              | (rw [show decide (lacc x p) = false from decide_eq_false (by unfold lacc; omega)])
              | (congr 1
                 rw [decide_eq_decide]
                 unfold lacc
                 constructor
                 · intro h; exact ⟨by omega, h⟩
                 · intro h; exact h.2)
          ·
            try simp only [decide_eq_true_eq, decide_eq_false_iff_not, Bool.or_eq_true, Bool.and_eq_true, Bool.or_eq_false_iff, Bool.and_eq_false_iff, Bool.not_eq_true', Bool.not_eq_false', Int.not_lt, Int.not_le, ne_eq, Decidable.not_not] at hc40
            have hdl : p.data.length ≤ 256 := by omega
            refine wpIn_skip ?_
            refine th_n ?_
            refine wpIn_seq ?_
            have hS0 := hN.sat
            have hNsz3 := hN.gr.size
            refine w_drawE (m := 15) (l0 := [(2, _), (3, _), (4, _)]) hfol H179 ⟨rfl, rfl, rfl, trivial⟩ (by kernel_rfl) ?_
            refine ⟨_, false, (fun σ ι w1 hg hd hon => by
                exact OpOK.sub (r := [(2, _), (3, _), (4, _)]) ⟨rfl, rfl, rfl, trivial⟩ (by
                  exact OpOK.eq (r_fld fld28_3 rfl))
                ), (fun _ _ _ _ _ _ h => h), (FreeR.no _), ?_⟩
            refine ⟨_, false, (fun σ ι w1 hg hd hon => by
                have hN := hN.ofGr ((Gr.refl _).drew.trans hg)
                have hB2 := hB2.gr ((Gr.refl _).drew.trans hg)
                have hB3 := hB3.gr ((Gr.refl _).drew.trans hg)
                have f0 := hd 0 (by decide) _ rfl
                have e0 : σ 0 = _ := f0.1 trivial
                exact OpOK.sub (r := [(41, _), (2, _), (3, _), (4, _)]) ⟨congrArg some e0, rfl, rfl, rfl, trivial⟩ (by
                  exact OpOK.eq (r_load sc22 rfl (hB3.cell rfl)))
                ), (fun _ _ _ _ _ _ h => h), (FreeR.no _), ?_⟩
            refine ⟨_, false, (fun σ ι w1 hg hd hon => by
                exact OpOK.sub (r := [(2, _), (3, _), (4, _)]) ⟨rfl, rfl, rfl, trivial⟩ (by
                  exact OpOK.eq (r_fld fld26_0 rfl))
                ), (fun _ _ _ _ _ _ h => h), (FreeR.no _), ?_⟩
            refine ⟨_, false, (fun σ ι w1 hg hd hon => by
                have hN := hN.ofGr ((Gr.refl _).drew.trans hg)
                have hB2 := hB2.gr ((Gr.refl _).drew.trans hg)
                have hB3 := hB3.gr ((Gr.refl _).drew.trans hg)
                have f2 := hd 2 (by decide) _ rfl
                have e2 : σ 2 = _ := f2.1 trivial
                exact OpOK.sub (r := [(43, _), (2, _), (3, _), (4, _)]) ⟨congrArg some e2, rfl, rfl, rfl, trivial⟩ (by
                  exact OpOK.eq (r_load sc22 rfl (hB2.cell rfl)))
                ), (fun _ _ _ _ _ _ h => h), (FreeR.no _), ?_⟩
            refine ⟨_, false, (fun σ ι w1 hg hd hon => by
                exact OpOK.sub (r := [(2, _), (3, _), (4, _)]) ⟨rfl, rfl, rfl, trivial⟩ (by
                  exact OpOK.eq (r_fld fld28_2 rfl))
                ), (fun _ _ _ _ _ _ h => h), (FreeR.no _), ?_⟩
            refine ⟨_, false, (fun σ ι w1 hg hd hon => by
                have hN := hN.ofGr ((Gr.refl _).drew.trans hg)
                have hB2 := hB2.gr ((Gr.refl _).drew.trans hg)
                have hB3 := hB3.gr ((Gr.refl _).drew.trans hg)
                have f4 := hd 4 (by decide) _ rfl
                have e4 : σ 4 = _ := f4.1 trivial
                exact OpOK.sub (r := [(45, _), (2, _), (3, _), (4, _)]) ⟨congrArg some e4, rfl, rfl, rfl, trivial⟩ (by
                  exact OpOK.eq (r_load sc23 rfl (hB3.cell rfl)))
                ), (fun _ _ _ _ _ _ h => h), (FreeR.no _), ?_⟩
            refine ⟨_, false, (fun σ ι w1 hg hd hon => by
                exact OpOK.sub (r := [(2, _), (3, _), (4, _)]) ⟨rfl, rfl, rfl, trivial⟩ (by
                  exact OpOK.eq (r_fld fld28_0 rfl))
                ), (fun _ _ _ _ _ _ h => h), (FreeR.no _), ?_⟩
            refine ⟨_, false, (fun σ ι w1 hg hd hon => by
                have hN := hN.ofGr ((Gr.refl _).drew.trans hg)
                have hB2 := hB2.gr ((Gr.refl _).drew.trans hg)
                have hB3 := hB3.gr ((Gr.refl _).drew.trans hg)
                have f6 := hd 6 (by decide) _ rfl
                have e6 : σ 6 = _ := f6.1 trivial
                exact OpOK.sub (r := [(47, _), (2, _), (3, _), (4, _)]) ⟨congrArg some e6, rfl, rfl, rfl, trivial⟩ (by
                  exact OpOK.eq (r_load sc3 rfl (hB3.cell rfl)))
                ), (fun _ _ _ _ _ _ h => h), (FreeR.no _), ?_⟩
            refine ⟨_, false, (fun σ ι w1 hg hd hon => by
                exact OpOK.sub (r := [(2, _), (3, _), (4, _)]) ⟨rfl, rfl, rfl, trivial⟩ (by
                  exact OpOK.eq (r_fld fld28_1 rfl))
                ), (fun _ _ _ _ _ _ h => h), (FreeR.no _), ?_⟩
            refine ⟨_, false, (fun σ ι w1 hg hd hon => by
                have hN := hN.ofGr ((Gr.refl _).drew.trans hg)
                have hB2 := hB2.gr ((Gr.refl _).drew.trans hg)
                have hB3 := hB3.gr ((Gr.refl _).drew.trans hg)
                have f8 := hd 8 (by decide) _ rfl
                have e8 : σ 8 = _ := f8.1 trivial
                exact OpOK.sub (r := [(49, _), (2, _), (3, _), (4, _)]) ⟨congrArg some e8, rfl, rfl, rfl, trivial⟩ (by
                  exact OpOK.eq (r_load sc3 rfl (hB3.cell rfl)))
                ), (fun _ _ _ _ _ _ h => h), (FreeR.no _), ?_⟩
            refine ⟨_, false, (fun σ ι w1 hg hd hon => by
                exact OpOK.sub (r := [(2, _), (3, _), (4, _)]) ⟨rfl, rfl, rfl, trivial⟩ (by
                  exact OpOK.eq (r_fld fld28_2 rfl))
                ), (fun _ _ _ _ _ _ h => h), (FreeR.no _), ?_⟩
            refine ⟨_, false, (fun σ ι w1 hg hd hon => by
                have hN := hN.ofGr ((Gr.refl _).drew.trans hg)
                have hB2 := hB2.gr ((Gr.refl _).drew.trans hg)
                have hB3 := hB3.gr ((Gr.refl _).drew.trans hg)
                have f10 := hd 10 (by decide) _ rfl
                have e10 : σ 10 = _ := f10.1 trivial
                exact OpOK.sub (r := [(51, _), (2, _), (3, _), (4, _)]) ⟨congrArg some e10, rfl, rfl, rfl, trivial⟩ (by
                  exact OpOK.eq (r_load sc23 rfl (hB3.cell rfl)))
                ), (fun _ _ _ _ _ _ h => h), (FreeR.no _), ?_⟩
            refine ⟨_, false, (fun σ ι w1 hg hd hon => by
                have f11 := hd 11 (by decide) _ rfl
                have e11 : σ 11 = _ := f11.1 trivial
                exact OpOK.sub (r := [(52, _), (2, _), (3, _), (4, _)]) ⟨congrArg some e11, rfl, rfl, rfl, trivial⟩ (by
                  exact OpOK.eq (r_len Try.underlying23 rfl))
                ), (fun _ _ _ _ _ _ h => h), (FreeR.no _), ?_⟩
            refine ⟨_, false, (fun σ ι w1 hg hd hon => by
                have hN := hN.ofGr ((Gr.refl _).drew.trans hg)
                have hB2 := hB2.gr ((Gr.refl _).drew.trans hg)
                have hB3 := hB3.gr ((Gr.refl _).drew.trans hg)
                have f7 := hd 7 (by decide) _ rfl
                have f9 := hd 9 (by decide) _ rfl
                have f12 := hd 12 (by decide) _ rfl
                have e7 : σ 7 = _ := f7.1 trivial
                have e9 : σ 9 = _ := f9.1 trivial
                have e12 : σ 12 = _ := f12.1 trivial
                exact OpOK.sub (r := [(48, _), (50, _), (53, _), (2, _), (3, _), (4, _)]) ⟨congrArg some e7, congrArg some e9, congrArg some e12, rfl, rfl, rfl, trivial⟩ (by exact OpOK.litM (dk := (kInt .i64)) (J := I) (xs := [p.seq, p.ack, (p.data.length : Int)]) (cs := [.int .i64 p.seq, .int .i64 p.ack, .int .i64 p.data.length]) Try.underlying78 sz3 zv3 (by rfl) (by rfl) (by rfl) (by simp [Value.oneCell']) hN.sat (Row.nums (xs := [p.seq, p.ack, (p.data.length : Int)]) (by simp only [List.mem_cons, List.not_mem_nil, or_false, InK]; rintro y (rfl | rfl | rfl) <;> omega)) (by simp))
                ), (by exact monoOwn (J := I) (Φ := fun _ K u => ∃ b, u = .slice (some ⟨b, 0, none⟩) 3 3 ∧ Els ((kInt .i64)) K (some ⟨b, 0, none⟩) ([p.seq, p.ack, (p.data.length : Int)]))), (FreeR.no _), ?_⟩
            refine ⟨_, true, (fun σ ι w1 hg hd hon => by
                have hN := hN.ofGr ((Gr.refl _).drew.trans hg)
                have hB2 := hB2.gr ((Gr.refl _).drew.trans hg)
                have hB3 := hB3.gr ((Gr.refl _).drew.trans hg)
                have f3 := hd 3 (by decide) _ rfl
                have f5 := hd 5 (by decide) _ rfl
                have f13 := hd 13 (by decide) _ rfl
                have e3 : σ 3 = _ := f3.1 trivial
                have e5 : σ 5 = _ := f5.1 trivial
                have e13 := f13.1 trivial
                obtain ⟨K13, hP13, b13, e13, hE13⟩ := e13
                skip
                exact CallOK.sub (r := [(44, _), (46, _), (54, _), (2, _), (3, _), (4, _)]) ⟨congrArg some e3, congrArg some e5, congrArg some e13, rfl, rfl, rfl, trivial⟩ (by
                  exact CallOK.V (enters_of rfl rfl hb58) (ttag hP13.sat (hP.de.up hP13.le) hE13 rfl (by simp; omega)))
                ), (fun _ _ _ _ _ _ h => h), (fun _ _ _ _ _ _ h => h), ?_⟩
            intro σ ι a40 w6 hgw6 H181 hd hap
            skip
            have hN0 := hN
            have hN := hN.ofGr ((Gr.refl _).drew.trans hgw6)
            have hNd := (New.refl (hS0.drewS)).ofGr hgw6
            obtain ⟨K13, hP13, b13, e13, hE13⟩ := (hd 13 (by decide) _ rfl).1 trivial
            replace hE13 := hE13.up (joinI_right hNd.sat hP13.sat)
            replace hNd := hNd.part hNd.le hP13 (hap.1 13 (by decide)).1
            replace hB2 := (hB2.gr (Gr.refl _).drew).next hNd
            replace hB3 := (hB3.gr (Gr.refl _).drew).next hNd
            replace hL := hL.up hNd.le
            replace hP := hP.up hNd.le
            have hN := hN0.drew.trans hNd
            have e1 : σ 1 = _ := (hd 1 (by decide) _ rfl).1 trivial
            have e14 : σ 14 = _ := (hd 14 (by decide) _ rfl).1 trivial
            replace H181 := H181.sub (r := [(42, _), (55, _), (2, _), (3, _), (4, _)]) ⟨congrArg some e1, congrArg some e14, rfl, rfl, rfl, trivial⟩
            clear hd
            clear hap
            refine wl1 H181 (r_eql rfl rfl) rfl rfl rfl rfl fun a41 H182 => ?_
            clear H181 a40
            refine wl1 H182 (r_assign rfl) rfl rfl rfl rfl fun a42 H183 => ?_
            clear H182 a41
            refine wl_end ?_
            refine th_n ?_
            refine wpIn_ret ?_
            refine fin_r H183 (res1 rfl H183 rfl) ?_
            refine ⟨?_, hN.gr⟩
            first
              | (rw [show decide (lacc x p) = false from decide_eq_false (by unfold lacc; omega)])
              | (congr 1
                 rw [decide_eq_decide]
                 unfold lacc
                 constructor
                 · intro h; exact ⟨by omega, h⟩
                 · intro h; exact h.2)
set_option maxRecDepth 100000 in
set_option maxHeartbeats 400000 in
theorem receive1_ret {x : Lk} {D : Option Addr} {cd b3 : Nat} {p : Pk} {I J0 : Im} {w W0 : World} (hN0 : New I w J0 W0) {b2 b4 : Nat} {A3 A4 : Option Addr} (hgeb2 : w.heap.size ≤ b2) (hgeb4 : w.heap.size ≤ b4) (hne24 : b2 ≠ b4) (hB2 : Box J0 W0 b2 [.int .u64 x.key, .slice A3 x.out.length x.out.length, .int .i64 x.base, .slice A4 x.inn.length x.inn.length, .int .i64 x.rcv] 26) (hB4 : Box J0 W0 b4 [.int .u64 0, .slice none 0 0, .int .i64 0, .slice none 0 0, .int .i64 0] 26) (hL : LkAt J0 x A3 x.out.length A4 x.inn.length) (hv : LkV x) (hgc : b3 < w.heap.size) (hB3 : Box J0 W0 b3 [.int .i64 p.seq, .int .i64 p.ack, .slice D p.data.length cd, .int .u64 p.chk] 28) (hP : PkAt J0 p D cd) (ha0 : 0 ≤ p.ack) (ha1 : p.ack ≤ x.base + x.out.length) (hdl : p.data.length ≤ 256) :
    Ret Try.prog 57 [.pointer (some ⟨b2, 0, none⟩), .pointer (some ⟨b3, 0, none⟩)] W0 (fun v W' => v = .tuple #[] ∧ ∃ J', Im.le J0 J' ∧ New I w J' W' ∧ ∃ A5 c5 A6 c6, Box J' W' b2 [.int .u64 (lrec2 (lrec1 x p) p).key, .slice A5 (lrec2 (lrec1 x p) p).out.length c5, .int .i64 (lrec2 (lrec1 x p) p).base, .slice A6 (lrec2 (lrec1 x p) p).inn.length c6, .int .i64 (lrec2 (lrec1 x p) p).rcv] 26 ∧ Box J' W' b4 [.int .u64 0, .slice none 0 0, .int .i64 0, .slice none 0 0, .int .i64 0] 26 ∧ LkAt J' (lrec2 (lrec1 x p) p) A5 c5 A6 c6) := by
  have hle0 := Im.le.refl J0
  have hv1 := hv.b0
  have hv2 := hv.b1
  have hv3 := hv.o
  have hv4 := hv.i
  have hv5 := hv.r0
  have hv6 := hv.r1
  refine ret_of (N := 68) Try.func57 rfl rfl rfl fun a0 H0 => ?_
  have hN := hN0
  simp only [argsEnv, Nat.zero_add, Nat.reduceAdd] at H0
  refine wpIn_seq ?_
  refine wpIn_seq ?_
  have hS0 := hN.sat
  have hNsz0 := hN.gr.size
  refine w_drawE (m := 6) (l0 := [(0, _), (1, _)]) hfol H0 ⟨rfl, rfl, trivial⟩ (by kernel_rfl) ?_
  refine ⟨_, false, (fun σ ι w1 hg hd hon => by
      exact OpOK.sub (r := [(0, _), (1, _)]) ⟨rfl, rfl, trivial⟩ (by
        exact OpOK.eq (r_fld fld28_1 rfl))
      ), (fun _ _ _ _ _ _ h => h), (FreeR.no _), ?_⟩
  refine ⟨_, false, (fun σ ι w1 hg hd hon => by
      have hN := hN.ofGr ((Gr.refl _).drew.trans hg)
      have hB2 := hB2.gr ((Gr.refl _).drew.trans hg)
      have hB4 := hB4.gr ((Gr.refl _).drew.trans hg)
      have hB3 := hB3.gr ((Gr.refl _).drew.trans hg)
      have f0 := hd 0 (by decide) _ rfl
      have e0 : σ 0 = _ := f0.1 trivial
      exact OpOK.sub (r := [(4, _), (0, _), (1, _)]) ⟨congrArg some e0, rfl, rfl, trivial⟩ (by
        exact OpOK.eq (r_load sc3 rfl (hB3.cell rfl)))
      ), (fun _ _ _ _ _ _ h => h), (FreeR.no _), ?_⟩
  refine ⟨_, false, (fun σ ι w1 hg hd hon => by
      exact OpOK.sub (r := [(0, _), (1, _)]) ⟨rfl, rfl, trivial⟩ (by
        exact OpOK.eq (r_move rfl))
      ), (fun _ _ _ _ _ _ h => h), (FreeR.no _), ?_⟩
  refine ⟨_, false, (fun σ ι w1 hg hd hon => by
      have f2 := hd 2 (by decide) _ rfl
      have e2 : σ 2 = _ := f2.1 trivial
      exact OpOK.sub (r := [(6, _), (0, _), (1, _)]) ⟨congrArg some e2, rfl, rfl, trivial⟩ (by
        exact OpOK.eq (r_nilCheck rfl))
      ), (fun _ _ _ _ _ _ h => h), (FreeR.no _), ?_⟩
  refine ⟨_, false, (fun σ ι w1 hg hd hon => by
      have f3 := hd 3 (by decide) _ rfl
      have e3 : σ 3 = _ := f3.1 trivial
      exact OpOK.sub (r := [(7, _), (0, _), (1, _)]) ⟨congrArg some e3, rfl, rfl, trivial⟩ (by
        exact OpOK.eq (r_fld fld26_2 rfl))
      ), (fun _ _ _ _ _ _ h => h), (FreeR.no _), ?_⟩
  refine ⟨_, false, (fun σ ι w1 hg hd hon => by
      have hN := hN.ofGr ((Gr.refl _).drew.trans hg)
      have hB2 := hB2.gr ((Gr.refl _).drew.trans hg)
      have hB4 := hB4.gr ((Gr.refl _).drew.trans hg)
      have hB3 := hB3.gr ((Gr.refl _).drew.trans hg)
      have f4 := hd 4 (by decide) _ rfl
      have e4 : σ 4 = _ := f4.1 trivial
      exact OpOK.sub (r := [(8, _), (0, _), (1, _)]) ⟨congrArg some e4, rfl, rfl, trivial⟩ (by
        exact OpOK.eq (r_load sc3 rfl (hB2.cell rfl)))
      ), (fun _ _ _ _ _ _ h => h), (FreeR.no _), ?_⟩
  intro σ ι a1 w2 hgw2 H1 hd hap
  skip
  have hN0 := hN
  have hN := hN.ofGr ((Gr.refl _).drew.trans hgw2)
  replace hB2 := hB2.gr ((Gr.refl _).drew.trans hgw2)
  replace hB4 := hB4.gr ((Gr.refl _).drew.trans hgw2)
  replace hB3 := hB3.gr ((Gr.refl _).drew.trans hgw2)
  have e1 : σ 1 = _ := (hd 1 (by decide) _ rfl).1 trivial
  have e5 : σ 5 = _ := (hd 5 (by decide) _ rfl).1 trivial
  replace H1 := H1.sub (r := [(5, _), (9, _), (0, _), (1, _)]) ⟨congrArg some e1, congrArg some e5, rfl, rfl, trivial⟩
  clear hd
  clear hap
  first | refine wl1 H1 (r_subk rfl rfl (by simp only [InK]; omega)) rfl rfl rfl rfl fun a2 H2 => ?_ | refine wl1 H1 (r_sub rfl rfl) rfl rfl rfl rfl fun a2 H2 => ?_
  clear H1 a1
  refine wl1 H2 (r_assign rfl) rfl rfl rfl rfl fun a3 H3 => ?_
  clear H2 a2
  refine wl_end ?_
  refine th_n ?_
  refine wpIn_seq ?_
  refine w_reg ?_
  refine wl1 H3 (r_move rfl) rfl rfl rfl rfl fun a4 H4 => ?_
  clear H3 a3
  refine wl1 H4 (r_gtr rfl rfl) rfl rfl rfl rfl fun a5 H5 => ?_
  clear H4 a4
  refine wl_end ?_
  refine th_n ?_
  first | refine w_if H5 rfl (fun hc12 => ?_) (fun hc12 => ?_) | refine w_cond H5 rfl (fun hc12 => ?_) (fun hc12 => ?_)
  ·
    try simp only [decide_eq_true_eq, decide_eq_false_iff_not, Bool.or_eq_true, Bool.and_eq_true, Bool.or_eq_false_iff, Bool.and_eq_false_iff, Bool.not_eq_true', Bool.not_eq_false', Int.not_lt, Int.not_le, ne_eq, Decidable.not_not] at hc12
    obtain ⟨k, hk⟩ : ∃ k : Nat, p.ack - x.base = (k : Int) := ⟨(p.ack - x.base).toNat, by omega⟩
    rw [hk] at H5
    have hkx : k ≤ x.out.length := by omega
    have hS0 := hN.sat
    have hNsz2 := hN.gr.size
    refine w_drawS [1, 8, 9] (m := 12) (l0 := [(0, _), (1, _), (3, _)]) (fun k => cond (Nat.beq k 1) (.pointer (some ⟨b2, 0, none⟩)) (cond (Nat.beq k 8) (.pointer (some ⟨b3, 1, none⟩)) (cond (Nat.beq k 9) (.int .i64 p.ack) (undef)))) hfol H5 ⟨rfl, rfl, rfl, trivial⟩ (by kernel_rfl) rfl ?_
    refine ⟨_, false, (fun σ ι w1 hg hd hon => by
        exact OpOK.sub (r := [(0, _), (1, _), (3, _)]) ⟨rfl, rfl, rfl, trivial⟩ (by
          exact OpOK.eq (r_move rfl))
        ), (fun _ _ _ _ _ _ h => h), (FreeR.no _), ?_⟩
    refine ⟨_, false, (fun σ ι w1 hg hd hon => by
        exact OpOK.sub (r := [(0, _), (1, _), (3, _)]) ⟨rfl, rfl, rfl, trivial⟩ (by
          exact OpOK.eq (r_move rfl))
        ), (fun _ _ _ _ _ _ h => h), (FreeR.no _), ?_⟩
    refine ⟨_, false, (fun σ ι w1 hg hd hon => by
        exact OpOK.sub (r := [(0, _), (1, _), (3, _)]) ⟨rfl, rfl, rfl, trivial⟩ (by
          exact OpOK.eq (r_move rfl))
        ), (fun _ _ _ _ _ _ h => h), (FreeR.no _), ?_⟩
    refine ⟨_, false, (fun σ ι w1 hg hd hon => by
        have f2 := hd 2 (by decide) _ rfl
        have e2 : σ 2 = _ := f2.1 trivial
        exact OpOK.sub (r := [(15, _), (0, _), (1, _), (3, _)]) ⟨congrArg some e2, rfl, rfl, rfl, trivial⟩ (by
          exact OpOK.eq (r_nilCheck rfl))
        ), (fun _ _ _ _ _ _ h => h), (FreeR.no _), ?_⟩
    refine ⟨_, false, (fun σ ι w1 hg hd hon => by
        have f3 := hd 3 (by decide) _ rfl
        have e3 : σ 3 = _ := f3.1 trivial
        exact OpOK.sub (r := [(16, _), (0, _), (1, _), (3, _)]) ⟨congrArg some e3, rfl, rfl, rfl, trivial⟩ (by
          exact OpOK.eq (r_fld fld26_1 rfl))
        ), (fun _ _ _ _ _ _ h => h), (FreeR.no _), ?_⟩
    refine ⟨_, false, (fun σ ι w1 hg hd hon => by
        have hN := hN.ofGr ((Gr.refl _).drew.trans hg)
        have hB2 := hB2.gr ((Gr.refl _).drew.trans hg)
        have hB4 := hB4.gr ((Gr.refl _).drew.trans hg)
        have hB3 := hB3.gr ((Gr.refl _).drew.trans hg)
        have f4 := hd 4 (by decide) _ rfl
        have e4 : σ 4 = _ := f4.1 trivial
        exact OpOK.sub (r := [(17, _), (0, _), (1, _), (3, _)]) ⟨congrArg some e4, rfl, rfl, rfl, trivial⟩ (by
          exact OpOK.eq (r_load sc24 rfl (hB2.cell rfl)))
        ), (fun _ _ _ _ _ _ h => h), (FreeR.no _), ?_⟩
    refine ⟨_, false, (fun σ ι w1 hg hd hon => by
        exact OpOK.sub (r := [(0, _), (1, _), (3, _)]) ⟨rfl, rfl, rfl, trivial⟩ (by
          exact OpOK.eq (r_move rfl))
        ), (fun _ _ _ _ _ _ h => h), (FreeR.no _), ?_⟩
    refine ⟨_, false, (fun σ ι w1 hg hd hon => by
        have f5 := hd 5 (by decide) _ rfl
        have f6 := hd 6 (by decide) _ rfl
        have e5 : σ 5 = _ := f5.1 trivial
        have e6 : σ 6 = _ := f6.1 trivial
        exact OpOK.sub (r := [(18, _), (19, _), (0, _), (1, _), (3, _)]) ⟨congrArg some e5, congrArg some e6, rfl, rfl, rfl, trivial⟩ (by
          exact OpOK.eq (r_from (lo := k) Try.underlying24 sz23 rfl rfl rfl (by omega) (by omega)))
        ), (fun _ _ _ _ _ _ h => h), (FreeR.no _), ?_⟩
    refine ⟨_, false, (fun σ ι w1 hg hd hon => by
        exact OpOK.sub (r := [(0, _), (1, _), (3, _)]) ⟨rfl, rfl, rfl, trivial⟩ (by
          exact OpOK.eq (r_fld fld28_1 rfl))
        ), (fun _ _ _ _ _ _ h => h), (FreeR.no _), ?_⟩
    refine ⟨_, false, (fun σ ι w1 hg hd hon => by
        have hN := hN.ofGr ((Gr.refl _).drew.trans hg)
        have hB2 := hB2.gr ((Gr.refl _).drew.trans hg)
        have hB4 := hB4.gr ((Gr.refl _).drew.trans hg)
        have hB3 := hB3.gr ((Gr.refl _).drew.trans hg)
        have f8 := hd 8 (by decide) _ rfl
        have e8 : σ 8 = _ := f8.1 trivial
        exact OpOK.sub (r := [(21, _), (0, _), (1, _), (3, _)]) ⟨congrArg some e8, rfl, rfl, rfl, trivial⟩ (by
          exact OpOK.eq (r_load sc3 rfl (hB3.cell rfl)))
        ), (fun _ _ _ _ _ _ h => h), (FreeR.no _), ?_⟩
    refine ⟨_, false, (fun σ ι w1 hg hd hon => by
        have f0 := hd 0 (by decide) _ rfl
        have e0 : σ 0 = _ := f0.1 trivial
        exact OpOK.sub (r := [(13, _), (0, _), (1, _), (3, _)]) ⟨congrArg some e0, rfl, rfl, rfl, trivial⟩ (by
          exact OpOK.eq (r_nilCheck rfl))
        ), (fun _ _ _ _ _ _ h => h), (FreeR.no _), ?_⟩
    refine ⟨_, false, (fun σ ι w1 hg hd hon => by
        have f10 := hd 10 (by decide) _ rfl
        have e10 : σ 10 = _ := f10.1 trivial
        exact OpOK.sub (r := [(23, _), (0, _), (1, _), (3, _)]) ⟨congrArg some e10, rfl, rfl, rfl, trivial⟩ (by
          exact OpOK.eq (r_fld fld26_1 rfl))
        ), (fun _ _ _ _ _ _ h => h), (FreeR.no _), ?_⟩
    refine ⟨by intro e he σ v q w; simp only [List.mem_cons, List.not_mem_nil, or_false] at he; rcases he with rfl | rfl | rfl <;> exact Iff.rfl, ?_⟩
    intro σ ι w4 hgw4 hd hap
    have hN0 := hN
    have hN := hN.ofGr ((Gr.refl _).drew.trans hgw4)
    replace hB2 := hB2.gr ((Gr.refl _).drew.trans hgw4)
    replace hB4 := hB4.gr ((Gr.refl _).drew.trans hgw4)
    replace hB3 := hB3.gr ((Gr.refl _).drew.trans hgw4)
    have e1 : σ 1 = _ := (hd 1 (by decide) _ rfl).1 trivial
    have e7 : σ 7 = _ := (hd 7 (by decide) _ rfl).1 trivial
    have e9 : σ 9 = _ := (hd 9 (by decide) _ rfl).1 trivial
    have e11 : σ 11 = _ := (hd 11 (by decide) _ rfl).1 trivial
    clear hd
    clear hap
    refine t_store (rr := [(20, _), (24, _)]) ⟨congrArg some e7, congrArg some e11, trivial⟩ sz24 rfl rfl rfl hN hB2 (by simp) hgeb2 ?_
    intro w5 hN hB2 ew5
    replace hB4 := hB4.otherE ew5 (by omega)
    replace hB3 := hB3.otherE ew5 (by omega)
    simp only [Nat.zero_add, Nat.add_zero, Nat.reduceAdd, Nat.reduceMul, List.set_cons_zero, List.set_cons_succ, spliceL] at hB2
    clear ew5
    refine ⟨?_, ?_⟩
    · intro e he o ho; simp only [List.mem_cons, List.not_mem_nil, or_false] at he
      rcases he with rfl | rfl | rfl
      · injection ho with ho; subst ho; exact Run1.sub (m := [(0, _), (1, _), (3, _)]) ⟨rfl, rfl, rfl, trivial⟩ (by first | exact (r_move rfl))
      · injection ho with ho; subst ho; exact Run1.sub (m := [(0, _), (1, _), (3, _)]) ⟨rfl, rfl, rfl, trivial⟩ (by first | exact (r_fld fld28_1 rfl))
      · injection ho with ho; subst ho; exact Run1.sub (m := [(21, _), (0, _), (1, _), (3, _)]) ⟨rfl, rfl, rfl, rfl, trivial⟩ (by first | exact (r_load sc3 rfl (hB3.cell rfl)))
    intro a6 H6
    replace H6 := H6.sub (r := [(14, _), (20, _), (22, _), (24, _), (0, _), (1, _), (3, _)]) ⟨congrArg some e1, congrArg some e7, congrArg some e9, congrArg some e11, rfl, rfl, rfl, trivial⟩
    clear H5 a5
    refine wl1 H6 (r_nilCheck rfl) rfl rfl rfl rfl fun a7 H7 => ?_
    clear H6 a6
    refine wl1 H7 (r_fld fld26_2 rfl) rfl rfl rfl rfl fun a8 H8 => ?_
    clear H7 a7
    refine s_store H8 sz3 rfl rfl rfl hN hB2 (by simp) hgeb2 fun w6 hN hB2 ew6 H9 => ?_
    clear H8
    replace hB4 := hB4.otherE ew6 (by omega)
    replace hB3 := hB3.otherE ew6 (by omega)
    simp only [Nat.zero_add, Nat.add_zero, Nat.reduceAdd, Nat.reduceMul, List.set_cons_zero, List.set_cons_succ, spliceL] at hB2
    clear ew6
    obtain ⟨x1, A5, hx1, hin1, hrv1, hB2, hL1⟩ : ∃ x1 A5, x1 = lrec1 x p ∧ x1.inn = x.inn ∧ x1.rcv = x.rcv ∧ Box J0 w6 b2 [.int .u64 x1.key, .slice A5 x1.out.length x1.out.length, .int .i64 x1.base, .slice A4 x1.inn.length x1.inn.length, .int .i64 x1.rcv] 26 ∧ LkAt J0 x1 A5 x1.out.length A4 x1.inn.length := by
      have hlr : lrec1 x p = { x with out := x.out.drop k, base := p.ack } := by unfold lrec1; rw [if_pos (by omega), show (p.ack - x.base).toNat = k from by omega]
      refine ⟨{ x with out := x.out.drop k, base := p.ack }, offS A3 k 1 x.out.length, hlr.symm, rfl, rfl, ?_, ⟨hL.kk, hP.ka, hL.kr, ?_, ?_, ?_, ?_⟩⟩
      · rw [show ({ x with out := x.out.drop k, base := p.ack } : Lk).out.length = x.out.length - k by simp]; exact hB2
      · exact Nat.le_refl _
      · exact hL.oe.off (by omega)
      · exact Nat.le_refl _
      · exact hL.ie
    refine wl_end ?_
    refine th_n ?_
    refine wpIn_seq ?_
    have hS0 := hN.sat
    have hNsz3 := hN.gr.size
    refine w_drawE (m := 6) (l0 := [(0, _), (1, _)]) hfol H9 ⟨rfl, rfl, trivial⟩ (by kernel_rfl) ?_
    refine ⟨_, false, (fun σ ι w1 hg hd hon => by
        exact OpOK.sub (r := [(0, _), (1, _)]) ⟨rfl, rfl, trivial⟩ (by
          exact OpOK.eq (r_fld fld28_0 rfl))
        ), (fun _ _ _ _ _ _ h => h), (FreeR.no _), ?_⟩
    refine ⟨_, false, (fun σ ι w1 hg hd hon => by
        have hN := hN.ofGr ((Gr.refl _).drew.trans hg)
        have hB2 := hB2.gr ((Gr.refl _).drew.trans hg)
        have hB4 := hB4.gr ((Gr.refl _).drew.trans hg)
        have hB3 := hB3.gr ((Gr.refl _).drew.trans hg)
        have f0 := hd 0 (by decide) _ rfl
        have e0 : σ 0 = _ := f0.1 trivial
        exact OpOK.sub (r := [(27, _), (0, _), (1, _)]) ⟨congrArg some e0, rfl, rfl, trivial⟩ (by
          exact OpOK.eq (r_load sc3 rfl (hB3.cell rfl)))
        ), (fun _ _ _ _ _ _ h => h), (FreeR.no _), ?_⟩
    refine ⟨_, false, (fun σ ι w1 hg hd hon => by
        exact OpOK.sub (r := [(0, _), (1, _)]) ⟨rfl, rfl, trivial⟩ (by
          exact OpOK.eq (r_move rfl))
        ), (fun _ _ _ _ _ _ h => h), (FreeR.no _), ?_⟩
    refine ⟨_, false, (fun σ ι w1 hg hd hon => by
        have f2 := hd 2 (by decide) _ rfl
        have e2 : σ 2 = _ := f2.1 trivial
        exact OpOK.sub (r := [(29, _), (0, _), (1, _)]) ⟨congrArg some e2, rfl, rfl, trivial⟩ (by
          exact OpOK.eq (r_nilCheck rfl))
        ), (fun _ _ _ _ _ _ h => h), (FreeR.no _), ?_⟩
    refine ⟨_, false, (fun σ ι w1 hg hd hon => by
        have f3 := hd 3 (by decide) _ rfl
        have e3 : σ 3 = _ := f3.1 trivial
        exact OpOK.sub (r := [(30, _), (0, _), (1, _)]) ⟨congrArg some e3, rfl, rfl, trivial⟩ (by
          exact OpOK.eq (r_fld fld26_4 rfl))
        ), (fun _ _ _ _ _ _ h => h), (FreeR.no _), ?_⟩
    refine ⟨_, false, (fun σ ι w1 hg hd hon => by
        have hN := hN.ofGr ((Gr.refl _).drew.trans hg)
        have hB2 := hB2.gr ((Gr.refl _).drew.trans hg)
        have hB4 := hB4.gr ((Gr.refl _).drew.trans hg)
        have hB3 := hB3.gr ((Gr.refl _).drew.trans hg)
        have f4 := hd 4 (by decide) _ rfl
        have e4 : σ 4 = _ := f4.1 trivial
        exact OpOK.sub (r := [(31, _), (0, _), (1, _)]) ⟨congrArg some e4, rfl, rfl, trivial⟩ (by
          exact OpOK.eq (r_load sc3 rfl (hB2.cell rfl)))
        ), (fun _ _ _ _ _ _ h => h), (FreeR.no _), ?_⟩
    intro σ ι a9 w8 hgw8 H10 hd hap
    skip
    have hN0 := hN
    have hN := hN.ofGr ((Gr.refl _).drew.trans hgw8)
    replace hB2 := hB2.gr ((Gr.refl _).drew.trans hgw8)
    replace hB4 := hB4.gr ((Gr.refl _).drew.trans hgw8)
    replace hB3 := hB3.gr ((Gr.refl _).drew.trans hgw8)
    have e1 : σ 1 = _ := (hd 1 (by decide) _ rfl).1 trivial
    have e5 : σ 5 = _ := (hd 5 (by decide) _ rfl).1 trivial
    replace H10 := H10.sub (r := [(28, _), (32, _), (0, _), (1, _)]) ⟨congrArg some e1, congrArg some e5, rfl, rfl, trivial⟩
    clear hd
    clear hap
    refine wl1 H10 (r_eql rfl rfl) rfl rfl rfl rfl fun a10 H11 => ?_
    clear H10 a9
    refine wl1 H11 (r_move rfl) rfl rfl rfl rfl fun a11 H12 => ?_
    clear H11 a10
    refine wl_split (t := 34) H12 rfl (fun hg3_7 H13 => ?_) (fun hg3_7 H13 => ?_)
    ·
      clear H12
      try simp only [decide_eq_true_eq, decide_eq_false_iff_not, Bool.or_eq_true, Bool.and_eq_true, Bool.or_eq_false_iff, Bool.and_eq_false_iff, Bool.not_eq_true', Bool.not_eq_false', Int.not_lt, Int.not_le, ne_eq, Decidable.not_not] at hg3_7
      refine wl_on (d := 34) H13 rfl rfl rfl ?_
      refine wl1 H13 (r_move rfl) rfl rfl rfl rfl fun a12 H14 => ?_
      clear H13 a11
      refine wl_on (d := 34) H14 rfl rfl rfl ?_
      refine wl1 H14 (r_nilCheck rfl) rfl rfl rfl rfl fun a13 H15 => ?_
      clear H14 a12
      refine wl_on (d := 34) H15 rfl rfl rfl ?_
      refine wl1 H15 (r_fld fld26_3 rfl) rfl rfl rfl rfl fun a14 H16 => ?_
      clear H15 a13
      refine wl_on (d := 34) H16 rfl rfl rfl ?_
      refine wl1 H16 (r_load sc24 rfl (hB2.cell rfl)) rfl rfl rfl rfl fun a15 H17 => ?_
      clear H16 a14
      refine wl_on (d := 34) H17 rfl rfl rfl ?_
      refine wl1 H17 (r_len Try.underlying24 rfl) rfl rfl rfl rfl fun a16 H18 => ?_
      clear H17 a15
      refine wl_on (d := 34) H18 rfl rfl rfl ?_
      refine wl1 H18 (r_lss rfl rfl) rfl rfl rfl rfl fun a17 H19 => ?_
      clear H18 a16
      refine wl1 H19 (r_pick_t rfl rfl) rfl rfl rfl rfl fun a18 H20 => ?_
      clear H19 a17
      refine wl1 H20 (r_move rfl) rfl rfl rfl rfl fun a19 H21 => ?_
      clear H20 a18
      refine wl_split (t := 42) H21 rfl (fun hg3_15 H22 => ?_) (fun hg3_15 H22 => ?_)
      ·
        clear H21
        try simp only [decide_eq_true_eq, decide_eq_false_iff_not, Bool.or_eq_true, Bool.and_eq_true, Bool.or_eq_false_iff, Bool.and_eq_false_iff, Bool.not_eq_true', Bool.not_eq_false', Int.not_lt, Int.not_le, ne_eq, Decidable.not_not] at hg3_15
        refine wl_on (d := 42) H22 rfl rfl rfl ?_
        refine wl1 H22 (r_move rfl) rfl rfl rfl rfl fun a20 H23 => ?_
        clear H22 a19
        refine wl_on (d := 42) H23 rfl rfl rfl ?_
        refine wl1 H23 (r_nilCheck rfl) rfl rfl rfl rfl fun a21 H24 => ?_
        clear H23 a20
        refine wl_on (d := 42) H24 rfl rfl rfl ?_
        refine wl1 H24 (r_fld fld26_4 rfl) rfl rfl rfl rfl fun a22 H25 => ?_
        clear H24 a21
        refine wl_on (d := 42) H25 rfl rfl rfl ?_
        refine wl1 H25 (r_load sc3 rfl (hB2.cell rfl)) rfl rfl rfl rfl fun a23 H26 => ?_
        clear H25 a22
        refine wl_on (d := 42) H26 rfl rfl rfl ?_
        refine wl1 H26 (r_lss rfl rfl) rfl rfl rfl rfl fun a24 H27 => ?_
        clear H26 a23
        refine wl1 H27 (r_pick_t rfl rfl) rfl rfl rfl rfl fun a25 H28 => ?_
        clear H27 a24
        refine wl_end ?_
        refine th_n ?_
        first | refine w_if H28 rfl (fun hc48 => ?_) (fun hc48 => ?_) | refine w_cond H28 rfl (fun hc48 => ?_) (fun hc48 => ?_)
        ·
          try simp only [decide_eq_true_eq, decide_eq_false_iff_not, Bool.or_eq_true, Bool.and_eq_true, Bool.or_eq_false_iff, Bool.and_eq_false_iff, Bool.not_eq_true', Bool.not_eq_false', Int.not_lt, Int.not_le, ne_eq, Decidable.not_not] at hc48
          refine wpIn_seq ?_
          obtain ⟨cs0, hRow0, hcl0, hraw0⟩ := hL1.ie.rawOf rfl
          have hS0 := hN.sat
          have hNsz4 := hN.gr.size
          have hlt_hB2_4 := hB2.lt
          have hlt_hB4_4 := hB4.lt
          have hlt_hB3_4 := hB3.lt
          refine w_drawE (m := 10) (l0 := [(0, _), (1, _)]) hfol H28 ⟨rfl, rfl, trivial⟩ (by kernel_rfl) ?_
          refine ⟨_, false, (fun σ ι w1 hg hd hon => by
              exact OpOK.sub (r := [(0, _), (1, _)]) ⟨rfl, rfl, trivial⟩ (by
                exact OpOK.eq (r_move rfl))
              ), (fun _ _ _ _ _ _ h => h), (FreeR.no _), ?_⟩
          refine ⟨_, false, (fun σ ι w1 hg hd hon => by
              exact OpOK.sub (r := [(0, _), (1, _)]) ⟨rfl, rfl, trivial⟩ (by
                exact OpOK.eq (r_move rfl))
              ), (fun _ _ _ _ _ _ h => h), (FreeR.no _), ?_⟩
          refine ⟨_, false, (fun σ ι w1 hg hd hon => by
              have f1 := hd 1 (by decide) _ rfl
              have e1 : σ 1 = _ := f1.1 trivial
              exact OpOK.sub (r := [(50, _), (0, _), (1, _)]) ⟨congrArg some e1, rfl, rfl, trivial⟩ (by
                exact OpOK.eq (r_nilCheck rfl))
              ), (fun _ _ _ _ _ _ h => h), (FreeR.no _), ?_⟩
          refine ⟨_, false, (fun σ ι w1 hg hd hon => by
              have f2 := hd 2 (by decide) _ rfl
              have e2 : σ 2 = _ := f2.1 trivial
              exact OpOK.sub (r := [(51, _), (0, _), (1, _)]) ⟨congrArg some e2, rfl, rfl, trivial⟩ (by
                exact OpOK.eq (r_fld fld26_3 rfl))
              ), (fun _ _ _ _ _ _ h => h), (FreeR.no _), ?_⟩
          refine ⟨_, false, (fun σ ι w1 hg hd hon => by
              have hN := hN.ofGr ((Gr.refl _).drew.trans hg)
              have hB2 := hB2.gr ((Gr.refl _).drew.trans hg)
              have hB4 := hB4.gr ((Gr.refl _).drew.trans hg)
              have hB3 := hB3.gr ((Gr.refl _).drew.trans hg)
              have f3 := hd 3 (by decide) _ rfl
              have e3 : σ 3 = _ := f3.1 trivial
              exact OpOK.sub (r := [(52, _), (0, _), (1, _)]) ⟨congrArg some e3, rfl, rfl, trivial⟩ (by
                exact OpOK.eq (r_load sc24 rfl (hB2.cell rfl)))
              ), (fun _ _ _ _ _ _ h => h), (FreeR.no _), ?_⟩
          refine ⟨_, false, (fun σ ι w1 hg hd hon => by
              exact OpOK.sub (r := [(0, _), (1, _)]) ⟨rfl, rfl, trivial⟩ (by
                exact OpOK.eq (r_fld fld28_2 rfl))
              ), (fun _ _ _ _ _ _ h => h), (FreeR.no _), ?_⟩
          refine ⟨_, false, (fun σ ι w1 hg hd hon => by
              have hN := hN.ofGr ((Gr.refl _).drew.trans hg)
              have hB2 := hB2.gr ((Gr.refl _).drew.trans hg)
              have hB4 := hB4.gr ((Gr.refl _).drew.trans hg)
              have hB3 := hB3.gr ((Gr.refl _).drew.trans hg)
              have f5 := hd 5 (by decide) _ rfl
              have e5 : σ 5 = _ := f5.1 trivial
              exact OpOK.sub (r := [(54, _), (0, _), (1, _)]) ⟨congrArg some e5, rfl, rfl, trivial⟩ (by
                exact OpOK.eq (r_load sc23 rfl (hB3.cell rfl)))
              ), (fun _ _ _ _ _ _ h => h), (FreeR.no _), ?_⟩
          refine ⟨_, true, (fun σ ι w1 hg hd hon => by
              have hN := hN.ofGr ((Gr.refl _).drew.trans hg)
              have hB2 := hB2.gr ((Gr.refl _).drew.trans hg)
              have hB4 := hB4.gr ((Gr.refl _).drew.trans hg)
              have hB3 := hB3.gr ((Gr.refl _).drew.trans hg)
              have f6 := hd 6 (by decide) _ rfl
              have e6 : σ 6 = _ := f6.1 trivial
              skip
              exact CallOK.sub (r := [(55, _), (0, _), (1, _)]) ⟨congrArg some e6, rfl, rfl, trivial⟩ (by
                exact CallOK.M (Φ := CL p.data) (enters_of rfl rfl hb54) (cloneΦ hN.sat hP.de (by omega)))
              ), (by exact monoOwn (J := J0) (Φ := fun _ => CL p.data)), (fun _ _ _ _ _ _ h => h), ?_⟩
          refine ⟨_, false, (fun σ ι w1 hg hd hon => by
              have hN := hN.ofGr ((Gr.refl _).drew.trans hg)
              have hB2 := hB2.gr ((Gr.refl _).drew.trans hg)
              have hB4 := hB4.gr ((Gr.refl _).drew.trans hg)
              have hB3 := hB3.gr ((Gr.refl _).drew.trans hg)
              have f7 := hd 7 (by decide) _ rfl
              exact OpOK.sub (r := [(56, σ 7)]) ⟨rfl, trivial⟩ (by exact OpOK.litS (cs := [σ 7]) Try.underlying24 sz23 zv23 rfl rfl rfl (by intro v hv; simp only [List.mem_singleton] at hv; subst hv; obtain ⟨_, _, _, _, e9, _⟩ := (hd 7 (by decide) _ rfl).1 trivial; rw [e9]; rfl))
              ), (by intro σ v q w w' hg h; obtain ⟨h1, h2, h3⟩ := h; exact ⟨h1, h2, h3.gr hg⟩), (FreeR.no _), ?_⟩
          refine ⟨_, false, (fun σ ι w1 hg hd hon => by
              have hN := hN.ofGr ((Gr.refl _).drew.trans hg)
              have hB2 := hB2.gr ((Gr.refl _).drew.trans hg)
              have hB4 := hB4.gr ((Gr.refl _).drew.trans hg)
              have hB3 := hB3.gr ((Gr.refl _).drew.trans hg)
              have f4 := hd 4 (by decide) _ rfl
              have f8 := hd 8 (by decide) _ rfl
              have e4 : σ 4 = _ := f4.1 trivial
              obtain ⟨e8, _, hbl8⟩ := f8.1 trivial
              exact OpOK.sub (r := [(53, _), (57, _), (0, _), (1, _)]) ⟨congrArg some e4, congrArg some e8, rfl, rfl, trivial⟩ (by exact OpOK.appR (cs := cs0) (ys := [σ 7]) rfl rfl Try.underlying24 nf23 rfl (by decide) (by omega) rfl (by decide) (hraw0 _ hN.sat) (blk_raw hbl8 (by intro v hv; simp only [List.mem_singleton] at hv; subst hv; obtain ⟨_, _, _, _, e9, _⟩ := (hd 7 (by decide) _ rfl).1 trivial; rw [e9]; rfl) (by simp)) (by omega))
              ), (by intro σ v q w w' hg h; obtain ⟨g, cap, rest, h1, h2, h3, h4, h5⟩ := h; exact ⟨g, cap, rest, h1, h2, h3, h4, h5.gr hg⟩), (FreeR.no _), ?_⟩
          intro σ ι a26 w10 hgw10 H29 hd hap
          skip
          have hN0 := hN
          have hN := hN.ofGr ((Gr.refl _).drew.trans hgw10)
          have hNd := (New.refl (hS0.drewS)).ofGr hgw10
          obtain ⟨K7, hP7, A7, c7, e7, hc7, hE7⟩ := (hd 7 (by decide) _ rfl).1 trivial
          replace hE7 := hE7.up (joinI_right hNd.sat hP7.sat)
          replace hNd := hNd.part hNd.le hP7 (hap.1 7 (by decide)).1
          replace hB2 := (hB2.gr (Gr.refl _).drew).next hNd
          replace hB4 := (hB4.gr (Gr.refl _).drew).next hNd
          replace hB3 := (hB3.gr (Gr.refl _).drew).next hNd
          replace hL := hL.up hNd.le
          replace hP := hP.up hNd.le
          replace hRow0 := hRow0.up hNd.le
          replace hL1 := hL1.up hNd.le
          replace hle0 := hle0.trans hNd.le
          have hN := hN0.drew.trans hNd
          have e0 : σ 0 = _ := (hd 0 (by decide) _ rfl).1 trivial
          obtain ⟨gR9, capR9, restR9, e9, hcR9, hgq9, hgr9, hblR9⟩ := (hd 9 (by decide) _ rfl).1 trivial
          have hg0R9 := (hap.1 9 (by decide)).1
          have hJ0R9 := hS0.fresh (Nat.le_trans hg0R9 hgq9)
          have hBR : Box (joinI J0 K7) w10 gR9 _ 23 := ⟨hblR9, (joinI_none hJ0R9 (hP7.none hJ0R9 (by have := hap.2 7 9 (by decide) (by decide) (by decide); omega)))⟩
          have hgebR := Nat.le_trans hNsz4 (Nat.le_trans hg0R9 hgq9)
          have hne_hB2_R := Nat.lt_of_lt_of_le hlt_hB2_4 (Nat.le_trans hg0R9 hgq9)
          have hne_hB4_R := Nat.lt_of_lt_of_le hlt_hB4_4 (Nat.le_trans hg0R9 hgq9)
          have hne_hB3_R := Nat.lt_of_lt_of_le hlt_hB3_4 (Nat.le_trans hg0R9 hgq9)
          replace H29 := H29.sub (r := [(49, _), (58, _), (0, _), (1, _)]) ⟨congrArg some e0, congrArg some e9, rfl, rfl, trivial⟩
          clear hd
          clear hap
          rw [e7] at hBR
          refine wl1 H29 (r_nilCheck rfl) rfl rfl rfl rfl fun a27 H30 => ?_
          clear H29 a26
          refine wl1 H30 (r_fld fld26_3 rfl) rfl rfl rfl rfl fun a28 H31 => ?_
          clear H30 a27
          refine s_store H31 sz24 rfl rfl rfl hN hB2 (by simp) hgeb2 fun w11 hN hB2 ew11 H32 => ?_
          clear H31
          replace hB4 := hB4.otherE ew11 (by omega)
          replace hB3 := hB3.otherE ew11 (by omega)
          replace hBR := hBR.otherE ew11 (by omega)
          simp only [Nat.zero_add, Nat.add_zero, Nat.reduceAdd, Nat.reduceMul, List.set_cons_zero, List.set_cons_succ, spliceL] at hB2
          clear ew11
          refine wl_end ?_
          refine th_n ?_
          refine w_reg ?_
          refine wl1 H32 (r_move rfl) rfl rfl rfl rfl fun a29 H33 => ?_
          clear H32 a28
          refine wl1 H33 (r_nilCheck rfl) rfl rfl rfl rfl fun a30 H34 => ?_
          clear H33 a29
          refine wl1 H34 (r_fld fld26_4 rfl) rfl rfl rfl rfl fun a31 H35 => ?_
          clear H34 a30
          refine wl1 H35 (r_load sc3 rfl (hB2.cell rfl)) rfl rfl rfl rfl fun a32 H36 => ?_
          clear H35 a31
          first | refine wl1 H36 (r_addk rfl rfl (by simp only [InK]; omega)) rfl rfl rfl rfl fun a33 H37 => ?_ | refine wl1 H36 (r_add rfl rfl) rfl rfl rfl rfl fun a33 H37 => ?_
          clear H36 a32
          refine wl1 H37 (r_nilCheck rfl) rfl rfl rfl rfl fun a34 H38 => ?_
          clear H37 a33
          refine wl1 H38 (r_fld fld26_4 rfl) rfl rfl rfl rfl fun a35 H39 => ?_
          clear H38 a34
          refine s_store H39 sz3 rfl rfl rfl hN hB2 (by simp) hgeb2 fun w12 hN hB2 ew12 H40 => ?_
          clear H39
          replace hB4 := hB4.otherE ew12 (by omega)
          replace hB3 := hB3.otherE ew12 (by omega)
          replace hBR := hBR.otherE ew12 (by omega)
          simp only [Nat.zero_add, Nat.add_zero, Nat.reduceAdd, Nat.reduceMul, List.set_cons_zero, List.set_cons_succ, spliceL] at hB2
          clear ew12
          refine wl_end ?_
          refine fin_n H40 (res0 rfl) ?_
          first
            | (have hlr2 : lrec2 x1 p = x1 := by unfold lrec2; rw [if_neg (by omega)]
               exact ⟨rfl, (joinI J0 K7), hle0, hN, A5, x1.out.length, A4, x1.inn.length, by rw [← hx1, hlr2]; exact hB2, hB4, by rw [← hx1, hlr2]; exact hL1⟩)
            | (have hlr2 : lrec2 x1 p = { x1 with inn := x1.inn ++ [p.data], rcv := x1.rcv + 1 } := by
                 have hin2 : x1.inn.length = x.inn.length := by rw [hin1]
                 unfold lrec2; rw [if_pos (by omega)]
               have hRd : Row kB (joinI J0 K7) (cs0 ++ [.slice A7 p.data.length c7]) (x1.inn ++ [p.data]) := hRow0.append (Row.one ⟨A7, c7, rfl, hc7, hE7⟩)
               obtain ⟨K9, hN9, hE9, hle9, hsm9⟩ := hN.freezeRow hBR hRd hgebR (by rw [List.length_append, hin1]; simp; omega)
               refine ⟨rfl, K9, hle0.trans hle9, hN9, A5, x1.out.length, some ⟨gR9, 0, none⟩, capR9, ?_, hB4.same (hsm9 _ (by omega)), ?_⟩
               · rw [← hx1, hlr2]
                 rw [show ({ x1 with inn := x1.inn ++ [p.data], rcv := x1.rcv + 1 } : Lk).inn.length = x1.inn.length + 1 by simp]
                 exact hB2.same (hsm9 _ (by omega))
               · rw [← hx1, hlr2]
                 exact ⟨hL1.kk, hL1.kb, by show InK .i64 (x1.rcv + 1); rw [hrv1]; simp only [InK]; omega, hL1.oc, hL1.oe.up hle9, by simp; omega, hE9⟩)
        ·
          try simp only [decide_eq_true_eq, decide_eq_false_iff_not, Bool.or_eq_true, Bool.and_eq_true, Bool.or_eq_false_iff, Bool.and_eq_false_iff, Bool.not_eq_true', Bool.not_eq_false', Int.not_lt, Int.not_le, ne_eq, Decidable.not_not] at hc48
          refine wpIn_skip ?_
          refine fin_n H28 (res0 rfl) ?_
          first
            | (have hlr2 : lrec2 x1 p = x1 := by unfold lrec2; rw [if_neg (by omega)]
               exact ⟨rfl, J0, hle0, hN, A5, x1.out.length, A4, x1.inn.length, by rw [← hx1, hlr2]; exact hB2, hB4, by rw [← hx1, hlr2]; exact hL1⟩)
            | (have hlr2 : lrec2 x1 p = { x1 with inn := x1.inn ++ [p.data], rcv := x1.rcv + 1 } := by
                 have hin2 : x1.inn.length = x.inn.length := by rw [hin1]
                 unfold lrec2; rw [if_pos (by omega)]
               have hRd : Row kB J0 (cs0 ++ [.slice A7 p.data.length c7]) (x1.inn ++ [p.data]) := hRow0.append (Row.one ⟨A7, c7, rfl, hc7, hE7⟩)
               obtain ⟨K9, hN9, hE9, hle9, hsm9⟩ := hN.freezeRow hBR hRd hgebR (by rw [List.length_append, hin1]; simp; omega)
               refine ⟨rfl, K9, hle0.trans hle9, hN9, A5, x1.out.length, some ⟨gR9, 0, none⟩, capR9, ?_, hB4.same (hsm9 _ (by omega)), ?_⟩
               · rw [← hx1, hlr2]
                 rw [show ({ x1 with inn := x1.inn ++ [p.data], rcv := x1.rcv + 1 } : Lk).inn.length = x1.inn.length + 1 by simp]
                 exact hB2.same (hsm9 _ (by omega))
               · rw [← hx1, hlr2]
                 exact ⟨hL1.kk, hL1.kb, by show InK .i64 (x1.rcv + 1); rw [hrv1]; simp only [InK]; omega, hL1.oc, hL1.oe.up hle9, by simp; omega, hE9⟩)
      ·
        clear H21
        try simp only [decide_eq_true_eq, decide_eq_false_iff_not, Bool.or_eq_true, Bool.and_eq_true, Bool.or_eq_false_iff, Bool.and_eq_false_iff, Bool.not_eq_true', Bool.not_eq_false', Int.not_lt, Int.not_le, ne_eq, Decidable.not_not] at hg3_15
        refine wl_off (d := 42) H22 rfl rfl rfl rfl rfl rfl fun a20 H41 => ?_
        clear H22 a19
        refine wl_off (d := 42) H41 rfl rfl rfl rfl rfl rfl fun a21 H42 => ?_
        clear H41 a20
        refine wl_off (d := 42) H42 rfl rfl rfl rfl rfl rfl fun a22 H43 => ?_
        clear H42 a21
        refine wl_off (d := 42) H43 rfl rfl rfl rfl rfl rfl fun a23 H44 => ?_
        clear H43 a22
        refine wl_off (d := 42) H44 rfl rfl rfl rfl rfl rfl fun a24 H45 => ?_
        clear H44 a23
        refine wl1 H45 (r_pick_f rfl rfl) rfl rfl rfl rfl fun a25 H46 => ?_
        clear H45 a24
        refine wl_end ?_
        refine th_n ?_
        refine w_ff H46 rfl rfl ?_
        refine wpIn_skip ?_
        refine fin_n H46 (res0 rfl) ?_
        first
          | (have hlr2 : lrec2 x1 p = x1 := by unfold lrec2; rw [if_neg (by omega)]
             exact ⟨rfl, J0, hle0, hN, A5, x1.out.length, A4, x1.inn.length, by rw [← hx1, hlr2]; exact hB2, hB4, by rw [← hx1, hlr2]; exact hL1⟩)
          | (have hlr2 : lrec2 x1 p = { x1 with inn := x1.inn ++ [p.data], rcv := x1.rcv + 1 } := by
               have hin2 : x1.inn.length = x.inn.length := by rw [hin1]
               unfold lrec2; rw [if_pos (by omega)]
             have hRd : Row kB J0 (cs0 ++ [.slice A7 p.data.length c7]) (x1.inn ++ [p.data]) := hRow0.append (Row.one ⟨A7, c7, rfl, hc7, hE7⟩)
             obtain ⟨K9, hN9, hE9, hle9, hsm9⟩ := hN.freezeRow hBR hRd hgebR (by rw [List.length_append, hin1]; simp; omega)
             refine ⟨rfl, K9, hle0.trans hle9, hN9, A5, x1.out.length, some ⟨gR9, 0, none⟩, capR9, ?_, hB4.same (hsm9 _ (by omega)), ?_⟩
             · rw [← hx1, hlr2]
               rw [show ({ x1 with inn := x1.inn ++ [p.data], rcv := x1.rcv + 1 } : Lk).inn.length = x1.inn.length + 1 by simp]
               exact hB2.same (hsm9 _ (by omega))
             · rw [← hx1, hlr2]
               exact ⟨hL1.kk, hL1.kb, by show InK .i64 (x1.rcv + 1); rw [hrv1]; simp only [InK]; omega, hL1.oc, hL1.oe.up hle9, by simp; omega, hE9⟩)
    ·
      clear H12
      try simp only [decide_eq_true_eq, decide_eq_false_iff_not, Bool.or_eq_true, Bool.and_eq_true, Bool.or_eq_false_iff, Bool.and_eq_false_iff, Bool.not_eq_true', Bool.not_eq_false', Int.not_lt, Int.not_le, ne_eq, Decidable.not_not] at hg3_7
      refine wl_off (d := 34) H13 rfl rfl rfl rfl rfl rfl fun a12 H47 => ?_
      clear H13 a11
      refine wl_off (d := 34) H47 rfl rfl rfl rfl rfl rfl fun a13 H48 => ?_
      clear H47 a12
      refine wl_off (d := 34) H48 rfl rfl rfl rfl rfl rfl fun a14 H49 => ?_
      clear H48 a13
      refine wl_off (d := 34) H49 rfl rfl rfl rfl rfl rfl fun a15 H50 => ?_
      clear H49 a14
      refine wl_off (d := 34) H50 rfl rfl rfl rfl rfl rfl fun a16 H51 => ?_
      clear H50 a15
      refine wl_off (d := 34) H51 rfl rfl rfl rfl rfl rfl fun a17 H52 => ?_
      clear H51 a16
      refine wl1 H52 (r_pick_f rfl rfl) rfl rfl rfl rfl fun a18 H53 => ?_
      clear H52 a17
      refine wl1 H53 (r_move rfl) rfl rfl rfl rfl fun a19 H54 => ?_
      clear H53 a18
      refine wl_off (d := 42) H54 rfl rfl rfl rfl rfl rfl fun a20 H55 => ?_
      clear H54 a19
      refine wl_off (d := 42) H55 rfl rfl rfl rfl rfl rfl fun a21 H56 => ?_
      clear H55 a20
      refine wl_off (d := 42) H56 rfl rfl rfl rfl rfl rfl fun a22 H57 => ?_
      clear H56 a21
      refine wl_off (d := 42) H57 rfl rfl rfl rfl rfl rfl fun a23 H58 => ?_
      clear H57 a22
      refine wl_off (d := 42) H58 rfl rfl rfl rfl rfl rfl fun a24 H59 => ?_
      clear H58 a23
      refine wl1 H59 (r_pick_f rfl rfl) rfl rfl rfl rfl fun a25 H60 => ?_
      clear H59 a24
      refine wl_end ?_
      refine th_n ?_
      refine w_ff H60 rfl rfl ?_
      refine wpIn_skip ?_
      refine fin_n H60 (res0 rfl) ?_
      first
        | (have hlr2 : lrec2 x1 p = x1 := by unfold lrec2; rw [if_neg (by omega)]
           exact ⟨rfl, J0, hle0, hN, A5, x1.out.length, A4, x1.inn.length, by rw [← hx1, hlr2]; exact hB2, hB4, by rw [← hx1, hlr2]; exact hL1⟩)
        | (have hlr2 : lrec2 x1 p = { x1 with inn := x1.inn ++ [p.data], rcv := x1.rcv + 1 } := by
             have hin2 : x1.inn.length = x.inn.length := by rw [hin1]
             unfold lrec2; rw [if_pos (by omega)]
           have hRd : Row kB J0 (cs0 ++ [.slice A7 p.data.length c7]) (x1.inn ++ [p.data]) := hRow0.append (Row.one ⟨A7, c7, rfl, hc7, hE7⟩)
           obtain ⟨K9, hN9, hE9, hle9, hsm9⟩ := hN.freezeRow hBR hRd hgebR (by rw [List.length_append, hin1]; simp; omega)
           refine ⟨rfl, K9, hle0.trans hle9, hN9, A5, x1.out.length, some ⟨gR9, 0, none⟩, capR9, ?_, hB4.same (hsm9 _ (by omega)), ?_⟩
           · rw [← hx1, hlr2]
             rw [show ({ x1 with inn := x1.inn ++ [p.data], rcv := x1.rcv + 1 } : Lk).inn.length = x1.inn.length + 1 by simp]
             exact hB2.same (hsm9 _ (by omega))
           · rw [← hx1, hlr2]
             exact ⟨hL1.kk, hL1.kb, by show InK .i64 (x1.rcv + 1); rw [hrv1]; simp only [InK]; omega, hL1.oc, hL1.oe.up hle9, by simp; omega, hE9⟩)
  ·
    try simp only [decide_eq_true_eq, decide_eq_false_iff_not, Bool.or_eq_true, Bool.and_eq_true, Bool.or_eq_false_iff, Bool.and_eq_false_iff, Bool.not_eq_true', Bool.not_eq_false', Int.not_lt, Int.not_le, ne_eq, Decidable.not_not] at hc12
    obtain ⟨x1, A5, hx1, hin1, hrv1, hB2, hL1⟩ : ∃ x1 A5, x1 = lrec1 x p ∧ x1.inn = x.inn ∧ x1.rcv = x.rcv ∧ Box J0 w2 b2 [.int .u64 x1.key, .slice A5 x1.out.length x1.out.length, .int .i64 x1.base, .slice A4 x1.inn.length x1.inn.length, .int .i64 x1.rcv] 26 ∧ LkAt J0 x1 A5 x1.out.length A4 x1.inn.length := ⟨x, A3, by unfold lrec1; rw [if_neg (by omega)], rfl, rfl, hB2, hL⟩
    refine wpIn_skip ?_
    refine th_n ?_
    refine wpIn_seq ?_
    have hS0 := hN.sat
    have hNsz3 := hN.gr.size
    refine w_drawE (m := 6) (l0 := [(0, _), (1, _)]) hfol H5 ⟨rfl, rfl, trivial⟩ (by kernel_rfl) ?_
    refine ⟨_, false, (fun σ ι w1 hg hd hon => by
        exact OpOK.sub (r := [(0, _), (1, _)]) ⟨rfl, rfl, trivial⟩ (by
          exact OpOK.eq (r_fld fld28_0 rfl))
        ), (fun _ _ _ _ _ _ h => h), (FreeR.no _), ?_⟩
    refine ⟨_, false, (fun σ ι w1 hg hd hon => by
        have hN := hN.ofGr ((Gr.refl _).drew.trans hg)
        have hB2 := hB2.gr ((Gr.refl _).drew.trans hg)
        have hB4 := hB4.gr ((Gr.refl _).drew.trans hg)
        have hB3 := hB3.gr ((Gr.refl _).drew.trans hg)
        have f0 := hd 0 (by decide) _ rfl
        have e0 : σ 0 = _ := f0.1 trivial
        exact OpOK.sub (r := [(27, _), (0, _), (1, _)]) ⟨congrArg some e0, rfl, rfl, trivial⟩ (by
          exact OpOK.eq (r_load sc3 rfl (hB3.cell rfl)))
        ), (fun _ _ _ _ _ _ h => h), (FreeR.no _), ?_⟩
    refine ⟨_, false, (fun σ ι w1 hg hd hon => by
        exact OpOK.sub (r := [(0, _), (1, _)]) ⟨rfl, rfl, trivial⟩ (by
          exact OpOK.eq (r_move rfl))
        ), (fun _ _ _ _ _ _ h => h), (FreeR.no _), ?_⟩
    refine ⟨_, false, (fun σ ι w1 hg hd hon => by
        have f2 := hd 2 (by decide) _ rfl
        have e2 : σ 2 = _ := f2.1 trivial
        exact OpOK.sub (r := [(29, _), (0, _), (1, _)]) ⟨congrArg some e2, rfl, rfl, trivial⟩ (by
          exact OpOK.eq (r_nilCheck rfl))
        ), (fun _ _ _ _ _ _ h => h), (FreeR.no _), ?_⟩
    refine ⟨_, false, (fun σ ι w1 hg hd hon => by
        have f3 := hd 3 (by decide) _ rfl
        have e3 : σ 3 = _ := f3.1 trivial
        exact OpOK.sub (r := [(30, _), (0, _), (1, _)]) ⟨congrArg some e3, rfl, rfl, trivial⟩ (by
          exact OpOK.eq (r_fld fld26_4 rfl))
        ), (fun _ _ _ _ _ _ h => h), (FreeR.no _), ?_⟩
    refine ⟨_, false, (fun σ ι w1 hg hd hon => by
        have hN := hN.ofGr ((Gr.refl _).drew.trans hg)
        have hB2 := hB2.gr ((Gr.refl _).drew.trans hg)
        have hB4 := hB4.gr ((Gr.refl _).drew.trans hg)
        have hB3 := hB3.gr ((Gr.refl _).drew.trans hg)
        have f4 := hd 4 (by decide) _ rfl
        have e4 : σ 4 = _ := f4.1 trivial
        exact OpOK.sub (r := [(31, _), (0, _), (1, _)]) ⟨congrArg some e4, rfl, rfl, trivial⟩ (by
          exact OpOK.eq (r_load sc3 rfl (hB2.cell rfl)))
        ), (fun _ _ _ _ _ _ h => h), (FreeR.no _), ?_⟩
    intro σ ι a6 w14 hgw14 H61 hd hap
    skip
    have hN0 := hN
    have hN := hN.ofGr ((Gr.refl _).drew.trans hgw14)
    replace hB2 := hB2.gr ((Gr.refl _).drew.trans hgw14)
    replace hB4 := hB4.gr ((Gr.refl _).drew.trans hgw14)
    replace hB3 := hB3.gr ((Gr.refl _).drew.trans hgw14)
    have e1 : σ 1 = _ := (hd 1 (by decide) _ rfl).1 trivial
    have e5 : σ 5 = _ := (hd 5 (by decide) _ rfl).1 trivial
    replace H61 := H61.sub (r := [(28, _), (32, _), (0, _), (1, _)]) ⟨congrArg some e1, congrArg some e5, rfl, rfl, trivial⟩
    clear hd
    clear hap
    refine wl1 H61 (r_eql rfl rfl) rfl rfl rfl rfl fun a7 H62 => ?_
    clear H61 a6
    refine wl1 H62 (r_move rfl) rfl rfl rfl rfl fun a8 H63 => ?_
    clear H62 a7
    refine wl_split (t := 34) H63 rfl (fun hg3_7 H64 => ?_) (fun hg3_7 H64 => ?_)
    ·
      clear H63
      try simp only [decide_eq_true_eq, decide_eq_false_iff_not, Bool.or_eq_true, Bool.and_eq_true, Bool.or_eq_false_iff, Bool.and_eq_false_iff, Bool.not_eq_true', Bool.not_eq_false', Int.not_lt, Int.not_le, ne_eq, Decidable.not_not] at hg3_7
      refine wl_on (d := 34) H64 rfl rfl rfl ?_
      refine wl1 H64 (r_move rfl) rfl rfl rfl rfl fun a9 H65 => ?_
      clear H64 a8
      refine wl_on (d := 34) H65 rfl rfl rfl ?_
      refine wl1 H65 (r_nilCheck rfl) rfl rfl rfl rfl fun a10 H66 => ?_
      clear H65 a9
      refine wl_on (d := 34) H66 rfl rfl rfl ?_
      refine wl1 H66 (r_fld fld26_3 rfl) rfl rfl rfl rfl fun a11 H67 => ?_
      clear H66 a10
      refine wl_on (d := 34) H67 rfl rfl rfl ?_
      refine wl1 H67 (r_load sc24 rfl (hB2.cell rfl)) rfl rfl rfl rfl fun a12 H68 => ?_
      clear H67 a11
      refine wl_on (d := 34) H68 rfl rfl rfl ?_
      refine wl1 H68 (r_len Try.underlying24 rfl) rfl rfl rfl rfl fun a13 H69 => ?_
      clear H68 a12
      refine wl_on (d := 34) H69 rfl rfl rfl ?_
      refine wl1 H69 (r_lss rfl rfl) rfl rfl rfl rfl fun a14 H70 => ?_
      clear H69 a13
      refine wl1 H70 (r_pick_t rfl rfl) rfl rfl rfl rfl fun a15 H71 => ?_
      clear H70 a14
      refine wl1 H71 (r_move rfl) rfl rfl rfl rfl fun a16 H72 => ?_
      clear H71 a15
      refine wl_split (t := 42) H72 rfl (fun hg3_15 H73 => ?_) (fun hg3_15 H73 => ?_)
      ·
        clear H72
        try simp only [decide_eq_true_eq, decide_eq_false_iff_not, Bool.or_eq_true, Bool.and_eq_true, Bool.or_eq_false_iff, Bool.and_eq_false_iff, Bool.not_eq_true', Bool.not_eq_false', Int.not_lt, Int.not_le, ne_eq, Decidable.not_not] at hg3_15
        refine wl_on (d := 42) H73 rfl rfl rfl ?_
        refine wl1 H73 (r_move rfl) rfl rfl rfl rfl fun a17 H74 => ?_
        clear H73 a16
        refine wl_on (d := 42) H74 rfl rfl rfl ?_
        refine wl1 H74 (r_nilCheck rfl) rfl rfl rfl rfl fun a18 H75 => ?_
        clear H74 a17
        refine wl_on (d := 42) H75 rfl rfl rfl ?_
        refine wl1 H75 (r_fld fld26_4 rfl) rfl rfl rfl rfl fun a19 H76 => ?_
        clear H75 a18
        refine wl_on (d := 42) H76 rfl rfl rfl ?_
        refine wl1 H76 (r_load sc3 rfl (hB2.cell rfl)) rfl rfl rfl rfl fun a20 H77 => ?_
        clear H76 a19
        refine wl_on (d := 42) H77 rfl rfl rfl ?_
        refine wl1 H77 (r_lss rfl rfl) rfl rfl rfl rfl fun a21 H78 => ?_
        clear H77 a20
        refine wl1 H78 (r_pick_t rfl rfl) rfl rfl rfl rfl fun a22 H79 => ?_
        clear H78 a21
        refine wl_end ?_
        refine th_n ?_
        first | refine w_if H79 rfl (fun hc48 => ?_) (fun hc48 => ?_) | refine w_cond H79 rfl (fun hc48 => ?_) (fun hc48 => ?_)
        ·
          try simp only [decide_eq_true_eq, decide_eq_false_iff_not, Bool.or_eq_true, Bool.and_eq_true, Bool.or_eq_false_iff, Bool.and_eq_false_iff, Bool.not_eq_true', Bool.not_eq_false', Int.not_lt, Int.not_le, ne_eq, Decidable.not_not] at hc48
          refine wpIn_seq ?_
          obtain ⟨cs0, hRow0, hcl0, hraw0⟩ := hL1.ie.rawOf rfl
          have hS0 := hN.sat
          have hNsz4 := hN.gr.size
          have hlt_hB2_4 := hB2.lt
          have hlt_hB4_4 := hB4.lt
          have hlt_hB3_4 := hB3.lt
          refine w_drawE (m := 10) (l0 := [(0, _), (1, _)]) hfol H79 ⟨rfl, rfl, trivial⟩ (by kernel_rfl) ?_
          refine ⟨_, false, (fun σ ι w1 hg hd hon => by
              exact OpOK.sub (r := [(0, _), (1, _)]) ⟨rfl, rfl, trivial⟩ (by
                exact OpOK.eq (r_move rfl))
              ), (fun _ _ _ _ _ _ h => h), (FreeR.no _), ?_⟩
          refine ⟨_, false, (fun σ ι w1 hg hd hon => by
              exact OpOK.sub (r := [(0, _), (1, _)]) ⟨rfl, rfl, trivial⟩ (by
                exact OpOK.eq (r_move rfl))
              ), (fun _ _ _ _ _ _ h => h), (FreeR.no _), ?_⟩
          refine ⟨_, false, (fun σ ι w1 hg hd hon => by
              have f1 := hd 1 (by decide) _ rfl
              have e1 : σ 1 = _ := f1.1 trivial
              exact OpOK.sub (r := [(50, _), (0, _), (1, _)]) ⟨congrArg some e1, rfl, rfl, trivial⟩ (by
                exact OpOK.eq (r_nilCheck rfl))
              ), (fun _ _ _ _ _ _ h => h), (FreeR.no _), ?_⟩
          refine ⟨_, false, (fun σ ι w1 hg hd hon => by
              have f2 := hd 2 (by decide) _ rfl
              have e2 : σ 2 = _ := f2.1 trivial
              exact OpOK.sub (r := [(51, _), (0, _), (1, _)]) ⟨congrArg some e2, rfl, rfl, trivial⟩ (by
                exact OpOK.eq (r_fld fld26_3 rfl))
              ), (fun _ _ _ _ _ _ h => h), (FreeR.no _), ?_⟩
          refine ⟨_, false, (fun σ ι w1 hg hd hon => by
              have hN := hN.ofGr ((Gr.refl _).drew.trans hg)
              have hB2 := hB2.gr ((Gr.refl _).drew.trans hg)
              have hB4 := hB4.gr ((Gr.refl _).drew.trans hg)
              have hB3 := hB3.gr ((Gr.refl _).drew.trans hg)
              have f3 := hd 3 (by decide) _ rfl
              have e3 : σ 3 = _ := f3.1 trivial
              exact OpOK.sub (r := [(52, _), (0, _), (1, _)]) ⟨congrArg some e3, rfl, rfl, trivial⟩ (by
                exact OpOK.eq (r_load sc24 rfl (hB2.cell rfl)))
              ), (fun _ _ _ _ _ _ h => h), (FreeR.no _), ?_⟩
          refine ⟨_, false, (fun σ ι w1 hg hd hon => by
              exact OpOK.sub (r := [(0, _), (1, _)]) ⟨rfl, rfl, trivial⟩ (by
                exact OpOK.eq (r_fld fld28_2 rfl))
              ), (fun _ _ _ _ _ _ h => h), (FreeR.no _), ?_⟩
          refine ⟨_, false, (fun σ ι w1 hg hd hon => by
              have hN := hN.ofGr ((Gr.refl _).drew.trans hg)
              have hB2 := hB2.gr ((Gr.refl _).drew.trans hg)
              have hB4 := hB4.gr ((Gr.refl _).drew.trans hg)
              have hB3 := hB3.gr ((Gr.refl _).drew.trans hg)
              have f5 := hd 5 (by decide) _ rfl
              have e5 : σ 5 = _ := f5.1 trivial
              exact OpOK.sub (r := [(54, _), (0, _), (1, _)]) ⟨congrArg some e5, rfl, rfl, trivial⟩ (by
                exact OpOK.eq (r_load sc23 rfl (hB3.cell rfl)))
              ), (fun _ _ _ _ _ _ h => h), (FreeR.no _), ?_⟩
          refine ⟨_, true, (fun σ ι w1 hg hd hon => by
              have hN := hN.ofGr ((Gr.refl _).drew.trans hg)
              have hB2 := hB2.gr ((Gr.refl _).drew.trans hg)
              have hB4 := hB4.gr ((Gr.refl _).drew.trans hg)
              have hB3 := hB3.gr ((Gr.refl _).drew.trans hg)
              have f6 := hd 6 (by decide) _ rfl
              have e6 : σ 6 = _ := f6.1 trivial
              skip
              exact CallOK.sub (r := [(55, _), (0, _), (1, _)]) ⟨congrArg some e6, rfl, rfl, trivial⟩ (by
                exact CallOK.M (Φ := CL p.data) (enters_of rfl rfl hb54) (cloneΦ hN.sat hP.de (by omega)))
              ), (by exact monoOwn (J := J0) (Φ := fun _ => CL p.data)), (fun _ _ _ _ _ _ h => h), ?_⟩
          refine ⟨_, false, (fun σ ι w1 hg hd hon => by
              have hN := hN.ofGr ((Gr.refl _).drew.trans hg)
              have hB2 := hB2.gr ((Gr.refl _).drew.trans hg)
              have hB4 := hB4.gr ((Gr.refl _).drew.trans hg)
              have hB3 := hB3.gr ((Gr.refl _).drew.trans hg)
              have f7 := hd 7 (by decide) _ rfl
              exact OpOK.sub (r := [(56, σ 7)]) ⟨rfl, trivial⟩ (by exact OpOK.litS (cs := [σ 7]) Try.underlying24 sz23 zv23 rfl rfl rfl (by intro v hv; simp only [List.mem_singleton] at hv; subst hv; obtain ⟨_, _, _, _, e9, _⟩ := (hd 7 (by decide) _ rfl).1 trivial; rw [e9]; rfl))
              ), (by intro σ v q w w' hg h; obtain ⟨h1, h2, h3⟩ := h; exact ⟨h1, h2, h3.gr hg⟩), (FreeR.no _), ?_⟩
          refine ⟨_, false, (fun σ ι w1 hg hd hon => by
              have hN := hN.ofGr ((Gr.refl _).drew.trans hg)
              have hB2 := hB2.gr ((Gr.refl _).drew.trans hg)
              have hB4 := hB4.gr ((Gr.refl _).drew.trans hg)
              have hB3 := hB3.gr ((Gr.refl _).drew.trans hg)
              have f4 := hd 4 (by decide) _ rfl
              have f8 := hd 8 (by decide) _ rfl
              have e4 : σ 4 = _ := f4.1 trivial
              obtain ⟨e8, _, hbl8⟩ := f8.1 trivial
              exact OpOK.sub (r := [(53, _), (57, _), (0, _), (1, _)]) ⟨congrArg some e4, congrArg some e8, rfl, rfl, trivial⟩ (by exact OpOK.appR (cs := cs0) (ys := [σ 7]) rfl rfl Try.underlying24 nf23 rfl (by decide) (by omega) rfl (by decide) (hraw0 _ hN.sat) (blk_raw hbl8 (by intro v hv; simp only [List.mem_singleton] at hv; subst hv; obtain ⟨_, _, _, _, e9, _⟩ := (hd 7 (by decide) _ rfl).1 trivial; rw [e9]; rfl) (by simp)) (by omega))
              ), (by intro σ v q w w' hg h; obtain ⟨g, cap, rest, h1, h2, h3, h4, h5⟩ := h; exact ⟨g, cap, rest, h1, h2, h3, h4, h5.gr hg⟩), (FreeR.no _), ?_⟩
          intro σ ι a23 w16 hgw16 H80 hd hap
          skip
          have hN0 := hN
          have hN := hN.ofGr ((Gr.refl _).drew.trans hgw16)
          have hNd := (New.refl (hS0.drewS)).ofGr hgw16
          obtain ⟨K7, hP7, A7, c7, e7, hc7, hE7⟩ := (hd 7 (by decide) _ rfl).1 trivial
          replace hE7 := hE7.up (joinI_right hNd.sat hP7.sat)
          replace hNd := hNd.part hNd.le hP7 (hap.1 7 (by decide)).1
          replace hB2 := (hB2.gr (Gr.refl _).drew).next hNd
          replace hB4 := (hB4.gr (Gr.refl _).drew).next hNd
          replace hB3 := (hB3.gr (Gr.refl _).drew).next hNd
          replace hL := hL.up hNd.le
          replace hP := hP.up hNd.le
          replace hRow0 := hRow0.up hNd.le
          replace hL1 := hL1.up hNd.le
          replace hle0 := hle0.trans hNd.le
          have hN := hN0.drew.trans hNd
          have e0 : σ 0 = _ := (hd 0 (by decide) _ rfl).1 trivial
          obtain ⟨gR9, capR9, restR9, e9, hcR9, hgq9, hgr9, hblR9⟩ := (hd 9 (by decide) _ rfl).1 trivial
          have hg0R9 := (hap.1 9 (by decide)).1
          have hJ0R9 := hS0.fresh (Nat.le_trans hg0R9 hgq9)
          have hBR : Box (joinI J0 K7) w16 gR9 _ 23 := ⟨hblR9, (joinI_none hJ0R9 (hP7.none hJ0R9 (by have := hap.2 7 9 (by decide) (by decide) (by decide); omega)))⟩
          have hgebR := Nat.le_trans hNsz4 (Nat.le_trans hg0R9 hgq9)
          have hne_hB2_R := Nat.lt_of_lt_of_le hlt_hB2_4 (Nat.le_trans hg0R9 hgq9)
          have hne_hB4_R := Nat.lt_of_lt_of_le hlt_hB4_4 (Nat.le_trans hg0R9 hgq9)
          have hne_hB3_R := Nat.lt_of_lt_of_le hlt_hB3_4 (Nat.le_trans hg0R9 hgq9)
          replace H80 := H80.sub (r := [(49, _), (58, _), (0, _), (1, _)]) ⟨congrArg some e0, congrArg some e9, rfl, rfl, trivial⟩
          clear hd
          clear hap
          rw [e7] at hBR
          refine wl1 H80 (r_nilCheck rfl) rfl rfl rfl rfl fun a24 H81 => ?_
          clear H80 a23
          refine wl1 H81 (r_fld fld26_3 rfl) rfl rfl rfl rfl fun a25 H82 => ?_
          clear H81 a24
          refine s_store H82 sz24 rfl rfl rfl hN hB2 (by simp) hgeb2 fun w17 hN hB2 ew17 H83 => ?_
          clear H82
          replace hB4 := hB4.otherE ew17 (by omega)
          replace hB3 := hB3.otherE ew17 (by omega)
          replace hBR := hBR.otherE ew17 (by omega)
          simp only [Nat.zero_add, Nat.add_zero, Nat.reduceAdd, Nat.reduceMul, List.set_cons_zero, List.set_cons_succ, spliceL] at hB2
          clear ew17
          refine wl_end ?_
          refine th_n ?_
          refine w_reg ?_
          refine wl1 H83 (r_move rfl) rfl rfl rfl rfl fun a26 H84 => ?_
          clear H83 a25
          refine wl1 H84 (r_nilCheck rfl) rfl rfl rfl rfl fun a27 H85 => ?_
          clear H84 a26
          refine wl1 H85 (r_fld fld26_4 rfl) rfl rfl rfl rfl fun a28 H86 => ?_
          clear H85 a27
          refine wl1 H86 (r_load sc3 rfl (hB2.cell rfl)) rfl rfl rfl rfl fun a29 H87 => ?_
          clear H86 a28
          first | refine wl1 H87 (r_addk rfl rfl (by simp only [InK]; omega)) rfl rfl rfl rfl fun a30 H88 => ?_ | refine wl1 H87 (r_add rfl rfl) rfl rfl rfl rfl fun a30 H88 => ?_
          clear H87 a29
          refine wl1 H88 (r_nilCheck rfl) rfl rfl rfl rfl fun a31 H89 => ?_
          clear H88 a30
          refine wl1 H89 (r_fld fld26_4 rfl) rfl rfl rfl rfl fun a32 H90 => ?_
          clear H89 a31
          refine s_store H90 sz3 rfl rfl rfl hN hB2 (by simp) hgeb2 fun w18 hN hB2 ew18 H91 => ?_
          clear H90
          replace hB4 := hB4.otherE ew18 (by omega)
          replace hB3 := hB3.otherE ew18 (by omega)
          replace hBR := hBR.otherE ew18 (by omega)
          simp only [Nat.zero_add, Nat.add_zero, Nat.reduceAdd, Nat.reduceMul, List.set_cons_zero, List.set_cons_succ, spliceL] at hB2
          clear ew18
          refine wl_end ?_
          refine fin_n H91 (res0 rfl) ?_
          first
            | (have hlr2 : lrec2 x1 p = x1 := by unfold lrec2; rw [if_neg (by omega)]
               exact ⟨rfl, (joinI J0 K7), hle0, hN, A5, x1.out.length, A4, x1.inn.length, by rw [← hx1, hlr2]; exact hB2, hB4, by rw [← hx1, hlr2]; exact hL1⟩)
            | (have hlr2 : lrec2 x1 p = { x1 with inn := x1.inn ++ [p.data], rcv := x1.rcv + 1 } := by
                 have hin2 : x1.inn.length = x.inn.length := by rw [hin1]
                 unfold lrec2; rw [if_pos (by omega)]
               have hRd : Row kB (joinI J0 K7) (cs0 ++ [.slice A7 p.data.length c7]) (x1.inn ++ [p.data]) := hRow0.append (Row.one ⟨A7, c7, rfl, hc7, hE7⟩)
               obtain ⟨K9, hN9, hE9, hle9, hsm9⟩ := hN.freezeRow hBR hRd hgebR (by rw [List.length_append, hin1]; simp; omega)
               refine ⟨rfl, K9, hle0.trans hle9, hN9, A5, x1.out.length, some ⟨gR9, 0, none⟩, capR9, ?_, hB4.same (hsm9 _ (by omega)), ?_⟩
               · rw [← hx1, hlr2]
                 rw [show ({ x1 with inn := x1.inn ++ [p.data], rcv := x1.rcv + 1 } : Lk).inn.length = x1.inn.length + 1 by simp]
                 exact hB2.same (hsm9 _ (by omega))
               · rw [← hx1, hlr2]
                 exact ⟨hL1.kk, hL1.kb, by show InK .i64 (x1.rcv + 1); rw [hrv1]; simp only [InK]; omega, hL1.oc, hL1.oe.up hle9, by simp; omega, hE9⟩)
        ·
          try simp only [decide_eq_true_eq, decide_eq_false_iff_not, Bool.or_eq_true, Bool.and_eq_true, Bool.or_eq_false_iff, Bool.and_eq_false_iff, Bool.not_eq_true', Bool.not_eq_false', Int.not_lt, Int.not_le, ne_eq, Decidable.not_not] at hc48
          refine wpIn_skip ?_
          refine fin_n H79 (res0 rfl) ?_
          first
            | (have hlr2 : lrec2 x1 p = x1 := by unfold lrec2; rw [if_neg (by omega)]
               exact ⟨rfl, J0, hle0, hN, A5, x1.out.length, A4, x1.inn.length, by rw [← hx1, hlr2]; exact hB2, hB4, by rw [← hx1, hlr2]; exact hL1⟩)
            | (have hlr2 : lrec2 x1 p = { x1 with inn := x1.inn ++ [p.data], rcv := x1.rcv + 1 } := by
                 have hin2 : x1.inn.length = x.inn.length := by rw [hin1]
                 unfold lrec2; rw [if_pos (by omega)]
               have hRd : Row kB J0 (cs0 ++ [.slice A7 p.data.length c7]) (x1.inn ++ [p.data]) := hRow0.append (Row.one ⟨A7, c7, rfl, hc7, hE7⟩)
               obtain ⟨K9, hN9, hE9, hle9, hsm9⟩ := hN.freezeRow hBR hRd hgebR (by rw [List.length_append, hin1]; simp; omega)
               refine ⟨rfl, K9, hle0.trans hle9, hN9, A5, x1.out.length, some ⟨gR9, 0, none⟩, capR9, ?_, hB4.same (hsm9 _ (by omega)), ?_⟩
               · rw [← hx1, hlr2]
                 rw [show ({ x1 with inn := x1.inn ++ [p.data], rcv := x1.rcv + 1 } : Lk).inn.length = x1.inn.length + 1 by simp]
                 exact hB2.same (hsm9 _ (by omega))
               · rw [← hx1, hlr2]
                 exact ⟨hL1.kk, hL1.kb, by show InK .i64 (x1.rcv + 1); rw [hrv1]; simp only [InK]; omega, hL1.oc, hL1.oe.up hle9, by simp; omega, hE9⟩)
      ·
        clear H72
        try simp only [decide_eq_true_eq, decide_eq_false_iff_not, Bool.or_eq_true, Bool.and_eq_true, Bool.or_eq_false_iff, Bool.and_eq_false_iff, Bool.not_eq_true', Bool.not_eq_false', Int.not_lt, Int.not_le, ne_eq, Decidable.not_not] at hg3_15
        refine wl_off (d := 42) H73 rfl rfl rfl rfl rfl rfl fun a17 H92 => ?_
        clear H73 a16
        refine wl_off (d := 42) H92 rfl rfl rfl rfl rfl rfl fun a18 H93 => ?_
        clear H92 a17
        refine wl_off (d := 42) H93 rfl rfl rfl rfl rfl rfl fun a19 H94 => ?_
        clear H93 a18
        refine wl_off (d := 42) H94 rfl rfl rfl rfl rfl rfl fun a20 H95 => ?_
        clear H94 a19
        refine wl_off (d := 42) H95 rfl rfl rfl rfl rfl rfl fun a21 H96 => ?_
        clear H95 a20
        refine wl1 H96 (r_pick_f rfl rfl) rfl rfl rfl rfl fun a22 H97 => ?_
        clear H96 a21
        refine wl_end ?_
        refine th_n ?_
        refine w_ff H97 rfl rfl ?_
        refine wpIn_skip ?_
        refine fin_n H97 (res0 rfl) ?_
        first
          | (have hlr2 : lrec2 x1 p = x1 := by unfold lrec2; rw [if_neg (by omega)]
             exact ⟨rfl, J0, hle0, hN, A5, x1.out.length, A4, x1.inn.length, by rw [← hx1, hlr2]; exact hB2, hB4, by rw [← hx1, hlr2]; exact hL1⟩)
          | (have hlr2 : lrec2 x1 p = { x1 with inn := x1.inn ++ [p.data], rcv := x1.rcv + 1 } := by
               have hin2 : x1.inn.length = x.inn.length := by rw [hin1]
               unfold lrec2; rw [if_pos (by omega)]
             have hRd : Row kB J0 (cs0 ++ [.slice A7 p.data.length c7]) (x1.inn ++ [p.data]) := hRow0.append (Row.one ⟨A7, c7, rfl, hc7, hE7⟩)
             obtain ⟨K9, hN9, hE9, hle9, hsm9⟩ := hN.freezeRow hBR hRd hgebR (by rw [List.length_append, hin1]; simp; omega)
             refine ⟨rfl, K9, hle0.trans hle9, hN9, A5, x1.out.length, some ⟨gR9, 0, none⟩, capR9, ?_, hB4.same (hsm9 _ (by omega)), ?_⟩
             · rw [← hx1, hlr2]
               rw [show ({ x1 with inn := x1.inn ++ [p.data], rcv := x1.rcv + 1 } : Lk).inn.length = x1.inn.length + 1 by simp]
               exact hB2.same (hsm9 _ (by omega))
             · rw [← hx1, hlr2]
               exact ⟨hL1.kk, hL1.kb, by show InK .i64 (x1.rcv + 1); rw [hrv1]; simp only [InK]; omega, hL1.oc, hL1.oe.up hle9, by simp; omega, hE9⟩)
    ·
      clear H63
      try simp only [decide_eq_true_eq, decide_eq_false_iff_not, Bool.or_eq_true, Bool.and_eq_true, Bool.or_eq_false_iff, Bool.and_eq_false_iff, Bool.not_eq_true', Bool.not_eq_false', Int.not_lt, Int.not_le, ne_eq, Decidable.not_not] at hg3_7
      refine wl_off (d := 34) H64 rfl rfl rfl rfl rfl rfl fun a9 H98 => ?_
      clear H64 a8
      refine wl_off (d := 34) H98 rfl rfl rfl rfl rfl rfl fun a10 H99 => ?_
      clear H98 a9
      refine wl_off (d := 34) H99 rfl rfl rfl rfl rfl rfl fun a11 H100 => ?_
      clear H99 a10
      refine wl_off (d := 34) H100 rfl rfl rfl rfl rfl rfl fun a12 H101 => ?_
      clear H100 a11
      refine wl_off (d := 34) H101 rfl rfl rfl rfl rfl rfl fun a13 H102 => ?_
      clear H101 a12
      refine wl_off (d := 34) H102 rfl rfl rfl rfl rfl rfl fun a14 H103 => ?_
      clear H102 a13
      refine wl1 H103 (r_pick_f rfl rfl) rfl rfl rfl rfl fun a15 H104 => ?_
      clear H103 a14
      refine wl1 H104 (r_move rfl) rfl rfl rfl rfl fun a16 H105 => ?_
      clear H104 a15
      refine wl_off (d := 42) H105 rfl rfl rfl rfl rfl rfl fun a17 H106 => ?_
      clear H105 a16
      refine wl_off (d := 42) H106 rfl rfl rfl rfl rfl rfl fun a18 H107 => ?_
      clear H106 a17
      refine wl_off (d := 42) H107 rfl rfl rfl rfl rfl rfl fun a19 H108 => ?_
      clear H107 a18
      refine wl_off (d := 42) H108 rfl rfl rfl rfl rfl rfl fun a20 H109 => ?_
      clear H108 a19
      refine wl_off (d := 42) H109 rfl rfl rfl rfl rfl rfl fun a21 H110 => ?_
      clear H109 a20
      refine wl1 H110 (r_pick_f rfl rfl) rfl rfl rfl rfl fun a22 H111 => ?_
      clear H110 a21
      refine wl_end ?_
      refine th_n ?_
      refine w_ff H111 rfl rfl ?_
      refine wpIn_skip ?_
      refine fin_n H111 (res0 rfl) ?_
      first
        | (have hlr2 : lrec2 x1 p = x1 := by unfold lrec2; rw [if_neg (by omega)]
           exact ⟨rfl, J0, hle0, hN, A5, x1.out.length, A4, x1.inn.length, by rw [← hx1, hlr2]; exact hB2, hB4, by rw [← hx1, hlr2]; exact hL1⟩)
        | (have hlr2 : lrec2 x1 p = { x1 with inn := x1.inn ++ [p.data], rcv := x1.rcv + 1 } := by
             have hin2 : x1.inn.length = x.inn.length := by rw [hin1]
             unfold lrec2; rw [if_pos (by omega)]
           have hRd : Row kB J0 (cs0 ++ [.slice A7 p.data.length c7]) (x1.inn ++ [p.data]) := hRow0.append (Row.one ⟨A7, c7, rfl, hc7, hE7⟩)
           obtain ⟨K9, hN9, hE9, hle9, hsm9⟩ := hN.freezeRow hBR hRd hgebR (by rw [List.length_append, hin1]; simp; omega)
           refine ⟨rfl, K9, hle0.trans hle9, hN9, A5, x1.out.length, some ⟨gR9, 0, none⟩, capR9, ?_, hB4.same (hsm9 _ (by omega)), ?_⟩
           · rw [← hx1, hlr2]
             rw [show ({ x1 with inn := x1.inn ++ [p.data], rcv := x1.rcv + 1 } : Lk).inn.length = x1.inn.length + 1 by simp]
             exact hB2.same (hsm9 _ (by omega))
           · rw [← hx1, hlr2]
             exact ⟨hL1.kk, hL1.kb, by show InK .i64 (x1.rcv + 1); rw [hrv1]; simp only [InK]; omega, hL1.oc, hL1.oe.up hle9, by simp; omega, hE9⟩)
end Go.Proofs.Ytjjpaghloaggeaa
