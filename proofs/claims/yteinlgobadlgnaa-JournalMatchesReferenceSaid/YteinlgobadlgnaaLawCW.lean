/- The law JournalContinues, walked. -/
import Derived.Test.YteinlgobadlgnaaLawRW
set_option linter.unusedVariables false
set_option linter.unusedSimpArgs false
namespace Go.Proofs.Yteinlgobadlgnaa
open Go.RowKit


theorem jends_at {rs : List (List Int)} (hg : good rs) (hl : lenR rs ≤ 65536) {k : Nat} (hk : k < (jends rs).length) : (jends rs)[k] = (lenR (rs.take (k + 1)) : Int) := jends_get hg hl (by rw [jends_length] at hk; exact hk)
theorem foldl_putB_le (ts : List (List Int)) (l : List Int) (h : l.length ≤ 65536) : (ts.foldl putB l).length ≤ 65536 := by
  rcases List.eq_nil_or_concat ts with rfl | ⟨a, b, rfl⟩
  · simpa using h
  · rw [List.concat_eq_append, List.foldl_append]; exact putB_le _ _
theorem foldl_take {ts : List (List Int)} {l : List Int} {k : Nat} (h : k < ts.length) : (ts.take (k + 1)).foldl putB l = putB ((ts.take k).foldl putB l) ts[k] := by
  rw [List.take_succ_eq_append_getElem h, List.foldl_append]; rfl

set_option maxRecDepth 100000 in
set_option maxHeartbeats 2000000 in
theorem continues_ret {A B : Option Addr} {c c2 : Nat} {rs ts : List (List Int)} {x : Int} {I : Im} {w : World} (hS : Sat I w) (hA : Els (kSl (kInt .i64)) I A rs) (hlc : rs.length ≤ c) (hY : Els (kSl (kInt .i64)) I B ts) (hx : 0 ≤ x ∧ x ≤ 65535) :
    Ret Try.prog 6 [.slice A rs.length c, .slice B ts.length c2, .int .u16 x] w (fun v w' => v = .bool true ∧ Gr w w') := by
  have hxk := hA.rowsIn
  have hyk := hY.rowsIn
  refine ret_of (N := 96) Try.func6 rfl rfl rfl fun a0 H0 => ?_
  have hN := New.refl hS
  simp only [argsEnv, Nat.zero_add, Nat.reduceAdd] at H0
  refine wpIn_seq ?_
  refine w_reg ?_
  refine wl1 H0 (r_assign rfl) rfl rfl rfl rfl fun a1 H1 => ?_
  clear H0 a0
  refine wl_end ?_
  refine th_n ?_
  refine wpIn_seq ?_
  refine w_reg ?_
  refine wlc  H1 rfl rfl hb9 rfl (examples_ret hN.sat) fun v w1 hR a2 H2 => ?_
  clear H1 a1
  obtain ⟨rfl, gw1⟩ := hR
  have hN := hN.ofGr gw1
  replace H2 := H2.known (t := 17) (b := true) rfl rfl
  refine wl1 H2 (r_assign rfl) rfl rfl rfl rfl fun a3 H3 => ?_
  clear H2 a2
  refine wl_end ?_
  refine th_n ?_
  refine wpIn_seq ?_
  refine wpIn_seq ?_
  refine w_reg ?_
  refine wl1 H3 (r_move rfl) rfl rfl rfl rfl fun a4 H4 => ?_
  clear H3 a3
  refine wl1 H4 (r_not rfl) rfl rfl rfl rfl fun a5 H5 => ?_
  clear H4 a4
  replace H5 := H5.known (t := 19) (b := false) rfl rfl
  refine wl_end ?_
  refine th_n ?_
  refine w_ff H5 rfl rfl ?_
  refine wpIn_skip ?_
  refine th_n ?_
  refine wpIn_seq ?_
  refine wpIn_seq ?_
  refine w_reg ?_
  refine wl1 H5 (r_move rfl) rfl rfl rfl rfl fun a6 H6 => ?_
  clear H5 a5
  refine wlc  H6 rfl rfl hb10 rfl (rsmall hN.sat hA) fun v w2 hR a7 H7 => ?_
  clear H6 a6
  obtain ⟨rfl, gw2⟩ := hR
  have hN := hN.ofGr gw2
  refine wl1 H7 (r_not rfl) rfl rfl rfl rfl fun a8 H8 => ?_
  clear H7 a7
  refine wl1 H8 (r_move rfl) rfl rfl rfl rfl fun a9 H9 => ?_
  clear H8 a8
  refine wl_split (t := 23) H9 rfl (fun hg4_3 H10 => ?_) (fun hg4_3 H10 => ?_)
  ·
    clear H9
    try simp only [decide_eq_true_eq, decide_eq_false_iff_not, Bool.or_eq_true, Bool.and_eq_true, Bool.or_eq_false_iff, Bool.and_eq_false_iff, Bool.not_eq_true', Bool.not_eq_false', Int.not_lt, Int.not_le, ne_eq, Decidable.not_not] at hg4_3
    refine wl_off (d := 23) H10 rfl rfl rfl rfl rfl rfl fun a10 H11 => ?_
    clear H10 a9
    refine wl_off (d := 23) H11 rfl rfl rfl rfl rfl rfl fun a11 H12 => ?_
    clear H11 a10
    refine wl_off (d := 23) H12 rfl rfl rfl rfl rfl rfl fun a12 H13 => ?_
    clear H12 a11
    refine wl1 H13 (r_pick_t rfl rfl) rfl rfl rfl rfl fun a13 H14 => ?_
    clear H13 a12
    refine wl_end ?_
    refine th_n ?_
    refine w_tt H14 rfl rfl ?_
    refine wpIn_seq ?_
    refine w_reg ?_
    refine wl1 H14 (r_move rfl) rfl rfl rfl rfl fun a14 H15 => ?_
    clear H14 a13
    refine wl1 H15 (r_assign rfl) rfl rfl rfl rfl fun a15 H16 => ?_
    clear H15 a14
    refine wl_end ?_
    refine th_n ?_
    refine wpIn_ret ?_
    refine th_r ?_
    refine fin_r H16 (res1 rfl H16 rfl) ?_
    exact ⟨rfl, hN.gr⟩
  ·
    clear H9
    try simp only [decide_eq_true_eq, decide_eq_false_iff_not, Bool.or_eq_true, Bool.and_eq_true, Bool.or_eq_false_iff, Bool.and_eq_false_iff, Bool.not_eq_true', Bool.not_eq_false', Int.not_lt, Int.not_le, ne_eq, Decidable.not_not] at hg4_3
    refine wl_on (d := 23) H10 rfl rfl rfl ?_
    refine wl1 H10 (r_move rfl) rfl rfl rfl rfl fun a10 H17 => ?_
    clear H10 a9
    refine wl_on (d := 23) H17 rfl rfl rfl ?_
    refine wlc  H17 rfl rfl hb10 rfl (rsmall hN.sat hY) fun v w3 hR a11 H18 => ?_
    clear H17 a10
    obtain ⟨rfl, gw3⟩ := hR
    have hN := hN.ofGr gw3
    refine wl_on (d := 23) H18 rfl rfl rfl ?_
    refine wl1 H18 (r_not rfl) rfl rfl rfl rfl fun a12 H19 => ?_
    clear H18 a11
    refine wl1 H19 (r_pick_f rfl rfl) rfl rfl rfl rfl fun a13 H20 => ?_
    clear H19 a12
    refine wl_end ?_
    refine th_n ?_
    first | refine w_if H20 rfl (fun hc27 => ?_) (fun hc27 => ?_) | refine w_cond H20 rfl (fun hc27 => ?_) (fun hc27 => ?_)
    ·
      try simp only [decide_eq_true_eq, decide_eq_false_iff_not, Bool.or_eq_true, Bool.and_eq_true, Bool.or_eq_false_iff, Bool.and_eq_false_iff, Bool.not_eq_true', Bool.not_eq_false', Int.not_lt, Int.not_le, ne_eq, Decidable.not_not] at hc27
      refine wpIn_seq ?_
      refine w_reg ?_
      refine wl1 H20 (r_move rfl) rfl rfl rfl rfl fun a14 H21 => ?_
      clear H20 a13
      refine wl1 H21 (r_assign rfl) rfl rfl rfl rfl fun a15 H22 => ?_
      clear H21 a14
      refine wl_end ?_
      refine th_n ?_
      refine wpIn_ret ?_
      refine th_r ?_
      refine fin_r H22 (res1 rfl H22 rfl) ?_
      exact ⟨rfl, hN.gr⟩
    ·
      try simp only [decide_eq_true_eq, decide_eq_false_iff_not, Bool.or_eq_true, Bool.and_eq_true, Bool.or_eq_false_iff, Bool.and_eq_false_iff, Bool.not_eq_true', Bool.not_eq_false', Int.not_lt, Int.not_le, ne_eq, Decidable.not_not] at hc27
      have hsm := small_lenR hg4_3
      have hgd := small_good hg4_3 hxk
      have hjf := small_jfold hg4_3 hxk
      have hsm2 := small_lenR hc27
      have hgd2 := small_good hc27 hyk
      obtain ⟨jl, hjl⟩ : ∃ x, x = chainB 0 rs := ⟨_, rfl⟩
      have hjn : jl.length = lenR rs := by rw [hjl, chainB_length]
      have hrl := (small_len hg4_3).1
      have htl := (small_len hc27).1
      refine wpIn_skip ?_
      refine th_n ?_
      refine wpIn_seq ?_
      refine w_reg ?_
      refine wl1 H20 (r_move rfl) rfl rfl rfl rfl fun a14 H23 => ?_
      clear H20 a13
      refine wlc  H23 rfl rfl hb22 rfl (lmade hN.sat hA (by omega)) fun v w4 hR a15 H24 => ?_
      clear H23 a14
      obtain ⟨J4, nw4, ⟨A1, c1, A2, c2, rfl, hc1, hE1, hc2, hE2⟩⟩ := hR
      replace hA := hA.up nw4.le
      replace hY := hY.up nw4.le
      have hN := hN.trans nw4
      rw [hjf, ← hjl] at H24 hc1 hE1
      refine wl1 H24 (r_move rfl) rfl rfl rfl rfl fun a16 H25 => ?_
      clear H24 a15
      refine wl1 H25 (r_extract rfl rfl) rfl rfl rfl rfl fun a17 H26 => ?_
      clear H25 a16
      refine wl1 H26 (r_extract rfl rfl) rfl rfl rfl rfl fun a18 H27 => ?_
      clear H26 a17
      refine wl1 H27 (r_assign rfl) rfl rfl rfl rfl fun a19 H28 => ?_
      clear H27 a18
      refine wl1 H28 (r_assign rfl) rfl rfl rfl rfl fun a20 H29 => ?_
      clear H28 a19
      refine wl_end ?_
      refine th_n ?_
      refine wpIn_seq ?_
      refine w_reg ?_
      refine wl1 H29 (r_move rfl) rfl rfl rfl rfl fun a21 H30 => ?_
      clear H29 a20
      first | refine wl1 H30 (r_convk Try.underlying24 Try.underlying3 rfl (by simp only [InK]; omega)) rfl rfl rfl rfl fun a22 H31 => ?_ | refine wl1 H30 (r_conv Try.underlying24 Try.underlying3 rfl) rfl rfl rfl rfl fun a22 H31 => ?_
      clear H30 a21
      refine wl1 H31 (r_move rfl) rfl rfl rfl rfl fun a23 H32 => ?_
      clear H31 a22
      refine wl1 H32 (r_len Try.underlying22 rfl) rfl rfl rfl rfl fun a24 H33 => ?_
      clear H32 a23
      first | refine wl1 H33 (r_addk rfl rfl (by simp only [InK]; omega)) rfl rfl rfl rfl fun a25 H34 => ?_ | refine wl1 H33 (r_add rfl rfl) rfl rfl rfl rfl fun a25 H34 => ?_
      clear H33 a24
      refine wl1 H34 (r_remk rfl rfl (by omega) (by omega)) rfl rfl rfl rfl fun a26 H35 => ?_
      clear H34 a25
      obtain ⟨n0, hn0⟩ : ∃ n : Nat, x % ((jl.length : Int) + 1) = (n : Int) := ⟨(x % ((jl.length : Int) + 1)).toNat, by have := Int.emod_nonneg x (show (jl.length : Int) + 1 ≠ 0 by omega); omega⟩
      have hn1 : n0 ≤ jl.length := by have := Int.emod_lt_of_pos x (show (0 : Int) < (jl.length : Int) + 1 by omega); omega
      rw [hn0] at H35
      refine wl1 H35 (r_assign rfl) rfl rfl rfl rfl fun a27 H36 => ?_
      clear H35 a26
      refine wl_end ?_
      refine th_n ?_
      refine wpIn_seq ?_
      refine w_reg ?_
      refine wl1 H36 (r_assign rfl) rfl rfl rfl rfl fun a28 H37 => ?_
      clear H36 a27
      refine wl_end ?_
      refine th_n ?_
      refine wpIn_seq ?_
      refine wpIn_block ?_
      refine w_loop (ι := Nat) (fun k => [(11, .int .i64 (k : Int))]) (fun k W => New I w J4 W ∧ (k ≤ rs.length ∧ lenR (rs.take k) ≤ n0)) (fun k => rs.length - k) (l0 := [(0, _), (1, _), (6, _), (7, _), (8, _), (9, _), (10, _)]) 0 H37 ⟨rfl, rfl, rfl, rfl, rfl, rfl, rfl, rfl, trivial⟩ ⟨hN, Nat.zero_le _, Nat.zero_le _⟩ ?_
      rintro k a29 w5 H38 ⟨hN, hk, hk1⟩
      clear H37 a28
      simp only [List.cons_append, List.nil_append] at H38
      refine wpIn_seq ?_
      refine wpIn_seq ?_
      refine w_reg ?_
      refine wl1 H38 (r_move rfl) rfl rfl rfl rfl fun a30 H39 => ?_
      clear H38 a29
      refine wl1 H39 (r_move rfl) rfl rfl rfl rfl fun a31 H40 => ?_
      clear H39 a30
      refine wl1 H40 (r_len Try.underlying29 rfl) rfl rfl rfl rfl fun a32 H41 => ?_
      clear H40 a31
      refine wl1 H41 (r_lss rfl rfl) rfl rfl rfl rfl fun a33 H42 => ?_
      clear H41 a32
      refine wl1 H42 (r_move rfl) rfl rfl rfl rfl fun a34 H43 => ?_
      clear H42 a33
      refine wl_split (t := 44) H43 rfl (fun hg9_4 H44 => ?_) (fun hg9_4 H44 => ?_)
      ·
        clear H43
        try simp only [decide_eq_true_eq, decide_eq_false_iff_not, Bool.or_eq_true, Bool.and_eq_true, Bool.or_eq_false_iff, Bool.and_eq_false_iff, Bool.not_eq_true', Bool.not_eq_false', Int.not_lt, Int.not_le, ne_eq, Decidable.not_not] at hg9_4
        obtain ⟨b2, o2, rfl⟩ := hE2.form (by omega)
        have hkr : k < rs.length := by rw [jends_length] at hg9_4; omega
        have hkj : k < (jends rs).length := by omega
        refine wl_on (d := 44) H44 rfl rfl rfl ?_
        refine wl1 H44 (r_move rfl) rfl rfl rfl rfl fun a35 H45 => ?_
        clear H44 a34
        refine wl_on (d := 44) H45 rfl rfl rfl ?_
        refine wl1 H45 (r_move rfl) rfl rfl rfl rfl fun a36 H46 => ?_
        clear H45 a35
        refine wl_on (d := 44) H46 rfl rfl rfl ?_
        refine wl1 H46 (r_idx Try.underlying29 sz3 rfl rfl (i := k) rfl (by omega)) rfl rfl rfl rfl fun a37 H47 => ?_
        clear H46 a36
        refine wl_on (d := 44) H47 rfl rfl rfl ?_
        refine wl1 H47 (r_load sc3 rfl (hN.sat.cell (hE2.num (j := k) hkj).1)) rfl rfl rfl rfl fun a38 H48 => ?_
        clear H47 a37
        rw [jends_at hgd (by omega) hkj] at H48
        refine wl_on (d := 44) H48 rfl rfl rfl ?_
        refine wl1 H48 (r_move rfl) rfl rfl rfl rfl fun a39 H49 => ?_
        clear H48 a38
        refine wl_on (d := 44) H49 rfl rfl rfl ?_
        refine wl1 H49 (r_leq rfl rfl) rfl rfl rfl rfl fun a40 H50 => ?_
        clear H49 a39
        refine wl1 H50 (r_pick_t rfl rfl) rfl rfl rfl rfl fun a41 H51 => ?_
        clear H50 a40
        refine wl_end ?_
        refine th_n ?_
        first | refine w_if H51 rfl (fun hc51 => ?_) (fun hc51 => ?_) | refine w_cond H51 rfl (fun hc51 => ?_) (fun hc51 => ?_)
        ·
          try simp only [decide_eq_true_eq, decide_eq_false_iff_not, Bool.or_eq_true, Bool.and_eq_true, Bool.or_eq_false_iff, Bool.and_eq_false_iff, Bool.not_eq_true', Bool.not_eq_false', Int.not_lt, Int.not_le, ne_eq, Decidable.not_not] at hc51
          refine wpIn_skip ?_
          refine th_n ?_
          refine wpIn_block ?_
          refine w_reg ?_
          refine wl1 H51 (r_move rfl) rfl rfl rfl rfl fun a42 H52 => ?_
          clear H51 a41
          first | refine wl1 H52 (r_addk rfl rfl (by simp only [InK]; omega)) rfl rfl rfl rfl fun a43 H53 => ?_ | refine wl1 H52 (r_add rfl rfl) rfl rfl rfl rfl fun a43 H53 => ?_
          clear H52 a42
          refine wl1 H53 (r_assign rfl) rfl rfl rfl rfl fun a44 H54 => ?_
          clear H53 a43
          refine wl_end ?_
          refine bl_n ?_
          exact th_n ⟨k + 1, (by omega), H54.sub ⟨rfl, rfl, rfl, rfl, rfl, rfl, rfl, rfl, trivial⟩, hN, by omega, by omega⟩
        ·
          try simp only [decide_eq_true_eq, decide_eq_false_iff_not, Bool.or_eq_true, Bool.and_eq_true, Bool.or_eq_false_iff, Bool.and_eq_false_iff, Bool.not_eq_true', Bool.not_eq_false', Int.not_lt, Int.not_le, ne_eq, Decidable.not_not] at hc51
          have hkx : k < rs.length → n0 < lenR (rs.take (k + 1)) := fun _ => by omega
          have hjl0 : jall (jl.take n0) 0 = ⟨rs.take k, lenR (rs.take k), lastK 0 (rs.take k)⟩ := by rw [hjl]; exact jall_part hgd hk hk1 hkx
          have hlk := lenR_take rs k
          refine wpIn_exit ?_
          refine th_x ?_
          refine th_x ?_
          refine bl_hit ?_
          refine th_n ?_
          refine wpIn_seq ?_
          refine w_reg ?_
          refine wl1 H51 (r_move rfl) rfl rfl rfl rfl fun a42 H55 => ?_
          clear H51 a41
          refine wl1 H55 (r_move rfl) rfl rfl rfl rfl fun a43 H56 => ?_
          clear H55 a42
          refine wlc  H56 rfl rfl hb20 rfl (jcut hN.sat hc1) fun v w6 hR a44 H57 => ?_
          clear H56 a43
          obtain ⟨rfl, gw6⟩ := hR
          have hN := hN.ofGr gw6
          rw [show (min (max (n0 : Int) 0) (jl.length : Int)).toNat = (jl.take n0).length by simp; omega] at H57
          refine wlc  H57 rfl rfl hb18 rfl (jwhole (l := jl.take n0) hN.sat (hE1.take n0) (by simp; omega) (by simp; omega)) fun v w7 hR a45 H58 => ?_
          clear H57 a44
          obtain ⟨rfl, gw7⟩ := hR
          have hN := hN.ofGr gw7
          rw [hjl0] at H58
          dsimp only at H58
          have hq0 : (chainB 0 (rs.take k)).length = lenR (rs.take k) := chainB_length _ _
          rw [← hq0] at H58
          have hq1 : (chainB 0 (rs.take k)).length ≤ c1 := by omega
          have hq2 : Els (kInt .u8) J4 A1 (chainB 0 (rs.take k)) := by have := hE1.take (lenR (rs.take k)); rw [hjl, chain_take] at this; exact this
          refine wl1 H58 (r_assign rfl) rfl rfl rfl rfl fun a46 H59 => ?_
          clear H58 a45
          refine wl_end ?_
          refine th_n ?_
          refine wpIn_seq ?_
          refine wpIn_seq ?_
          refine w_reg ?_
          refine wl1 H59 (r_assign rfl) rfl rfl rfl rfl fun a47 H60 => ?_
          clear H59 a46
          refine wl_end ?_
          refine th_n ?_
          refine wpIn_block ?_
          refine w_loop (ι := (Nat × Option Addr × Nat) × Im) (fun xJ => (fun x => [(13, .int .i64 (x.1 : Int)), (12, .slice x.2.1 ((ts.take x.1).foldl putB (chainB 0 (rs.take k))).length x.2.2)]) xJ.1) (fun xJ W => Im.le J4 xJ.2 ∧ New I w xJ.2 W ∧ (fun x (J : Im) => x.1 ≤ ts.length ∧ ((ts.take x.1).foldl putB (chainB 0 (rs.take k))).length ≤ x.2.2 ∧ Els (kInt .u8) J x.2.1 ((ts.take x.1).foldl putB (chainB 0 (rs.take k)))) xJ.1 xJ.2) (fun xJ => (fun x => ts.length - x.1) xJ.1) (l0 := [(0, _), (1, _), (6, _), (7, _), (11, _)]) ((0, A1, c1), J4) H60 ⟨rfl, rfl, rfl, rfl, rfl, rfl, rfl, trivial⟩ ⟨Im.le.refl _, hN, Nat.zero_le _, hq1, hq2⟩ ?_
          rintro ⟨⟨i, A4, c4⟩, J8⟩ a48 w8 H61 ⟨hleJ1, hN, hi, hc4, hE4⟩
          clear H60 a47
          simp only [List.cons_append, List.nil_append] at H61
          try dsimp only at hleJ1
          try dsimp only at hN
          replace hA := hA.up hleJ1
          replace hY := hY.up hleJ1
          replace hE1 := hE1.up hleJ1
          replace hE2 := hE2.up hleJ1
          simp only at hi hc4 hE4 H61
          try dsimp only at hE4
          try dsimp only at hc4
          try dsimp only at hi
          refine wpIn_seq ?_
          refine wpIn_seq ?_
          refine w_reg ?_
          refine wl1 H61 (r_move rfl) rfl rfl rfl rfl fun a49 H62 => ?_
          clear H61 a48
          refine wl1 H62 (r_move rfl) rfl rfl rfl rfl fun a50 H63 => ?_
          clear H62 a49
          refine wl1 H63 (r_len Try.underlying23 rfl) rfl rfl rfl rfl fun a51 H64 => ?_
          clear H63 a50
          refine wl1 H64 (r_lss rfl rfl) rfl rfl rfl rfl fun a52 H65 => ?_
          clear H64 a51
          refine wl_end ?_
          refine th_n ?_
          first | refine w_if H65 rfl (fun hc61 => ?_) (fun hc61 => ?_) | refine w_cond H65 rfl (fun hc61 => ?_) (fun hc61 => ?_)
          ·
            try simp only [decide_eq_true_eq, decide_eq_false_iff_not, Bool.or_eq_true, Bool.and_eq_true, Bool.or_eq_false_iff, Bool.and_eq_false_iff, Bool.not_eq_true', Bool.not_eq_false', Int.not_lt, Int.not_le, ne_eq, Decidable.not_not] at hc61
            obtain ⟨bB, oB, rfl⟩ := hY.form (by omega)
            have hil : i < ts.length := by omega
            obtain ⟨AA, cA, hcA, hlA, hEA⟩ := hY.rowAt hil
            have hfl := foldl_putB_le (ts.take i) (chainB 0 (rs.take k)) (by rw [chainB_length]; omega)
            refine wpIn_skip ?_
            refine th_n ?_
            refine wpIn_seq ?_
            refine wpIn_block ?_
            refine w_reg ?_
            refine wl1 H65 (r_move rfl) rfl rfl rfl rfl fun a53 H66 => ?_
            clear H65 a52
            refine wl1 H66 (r_move rfl) rfl rfl rfl rfl fun a54 H67 => ?_
            clear H66 a53
            refine wl1 H67 (r_move rfl) rfl rfl rfl rfl fun a55 H68 => ?_
            clear H67 a54
            refine wl1 H68 (r_idx Try.underlying23 sz29 rfl rfl (i := i) rfl (by omega)) rfl rfl rfl rfl fun a56 H69 => ?_
            clear H68 a55
            refine wl1 H69 (r_load sc29 rfl (hN.sat.cell hcA)) rfl rfl rfl rfl fun a57 H70 => ?_
            clear H69 a56
            refine wlc  H70 rfl rfl hb14 rfl (lput hN.sat hE4 hc4 (by omega) hEA hlA) fun v w9 hR a58 H71 => ?_
            clear H70 a57
            obtain ⟨J9, nw9, ⟨A5, c5, rfl, hc5, hE5⟩⟩ := hR
            replace hA := hA.up nw9.le
            replace hY := hY.up nw9.le
            replace hE1 := hE1.up nw9.le
            replace hE2 := hE2.up nw9.le
            replace hE4 := hE4.up nw9.le
            replace hleJ1 := hleJ1.trans nw9.le
            have hN := hN.trans nw9
            rw [← foldl_take hil] at H71 hc5 hE5
            refine wl1 H71 (r_fieldv 0 rfl rfl (by kernel_rfl)) rfl rfl rfl rfl fun a59 H72 => ?_
            clear H71 a58
            refine wl1 H72 (r_assign rfl) rfl rfl rfl rfl fun a60 H73 => ?_
            clear H72 a59
            refine wl_end ?_
            refine bl_n ?_
            refine th_n ?_
            refine w_reg ?_
            refine wl1 H73 (r_move rfl) rfl rfl rfl rfl fun a61 H74 => ?_
            clear H73 a60
            first | refine wl1 H74 (r_addk rfl rfl (by simp only [InK]; omega)) rfl rfl rfl rfl fun a62 H75 => ?_ | refine wl1 H74 (r_add rfl rfl) rfl rfl rfl rfl fun a62 H75 => ?_
            clear H74 a61
            refine wl1 H75 (r_assign rfl) rfl rfl rfl rfl fun a63 H76 => ?_
            clear H75 a62
            refine wl_end ?_
            exact th_n ⟨((i + 1, A5, c5), J9), (by show ts.length - (i + 1) < ts.length - i; omega), H76.sub ⟨rfl, rfl, rfl, rfl, rfl, rfl, rfl, trivial⟩, hleJ1, hN, by show i + 1 ≤ ts.length; omega, hc5, hE5⟩
          ·
            try simp only [decide_eq_true_eq, decide_eq_false_iff_not, Bool.or_eq_true, Bool.and_eq_true, Bool.or_eq_false_iff, Bool.and_eq_false_iff, Bool.not_eq_true', Bool.not_eq_false', Int.not_lt, Int.not_le, ne_eq, Decidable.not_not] at hc61
            rw [show i = ts.length by omega, List.take_length] at H65 hE4 hc4
            have hgz : good (rs.take k ++ ts) := fun r hr => by
              rcases List.mem_append.1 hr with h | h
              · exact hgd.take k r h
              · exact hgd2 r h
            have hlz : lenR (rs.take k ++ ts) ≤ 4000 := by rw [lenR_append]; omega
            rw [foldl_chain ts (rs.take k) hgz (by omega)] at H65 hE4 hc4
            have hjz : jfold (rs.take k ++ ts) = chainB 0 (rs.take k ++ ts) := jfold_chain hgz (by omega)
            have hcl := chainB_length 0 (rs.take k ++ ts)
            refine wpIn_exit ?_
            refine th_x ?_
            refine th_x ?_
            refine bl_hit ?_
            refine th_n ?_
            refine wpIn_seq ?_
            refine w_reg ?_
            refine s_lit1 (cs := []) H65 Try.underlying23 sz29 zv29 rfl rfl rfl (by simp [Value.oneCell']) rfl hN fun w10 l71 K10 hKl71 hlel71 hN nw10 hgel71 a53 H77 => ?_
            clear H65 a52
            replace hA := hA.up nw10.le
            replace hY := hY.up nw10.le
            replace hE1 := hE1.up nw10.le
            replace hE2 := hE2.up nw10.le
            replace hE4 := hE4.up nw10.le
            replace hleJ1 := hleJ1.trans nw10.le
            refine wl1 H77 (r_move rfl) rfl rfl rfl rfl fun a54 H78 => ?_
            clear H77 a53
            refine wl1 H78 (r_move rfl) rfl rfl rfl rfl fun a55 H79 => ?_
            clear H78 a54
            refine wl1 H79 (r_upto (hi := (rs.take k).length) Try.underlying23 sz29 rfl rfl (by simp; omega) (by simp; omega)) rfl rfl rfl rfl fun a56 H80 => ?_
            clear H79 a55
            refine s_app (d := kSl (kInt .i64)) (B := w.heap.size) H80 rfl rfl Try.underlying23 nf29 rfl (by decide) (by decide) rfl hN (.inr ⟨_, rfl, Els.nil _ _ _⟩) (hA.take k) rfl (Nat.le_refl _) hN.gr.size (by simp; omega) fun vw11 w11 hO hOO hOO2 kw11 hN a57 H81 => ?_
            clear H80 a56
            refine wl1 H81 (r_move rfl) rfl rfl rfl rfl fun a58 H82 => ?_
            clear H81 a57
            refine s_app (d := kSl (kInt .i64)) (B := w.heap.size) H82 rfl rfl Try.underlying23 nf29 rfl (by decide) (by decide) rfl hN hO hY rfl (Nat.le_refl _) hN.gr.size (by simp; omega) fun vw12 w12 hO hOO hOO2 kw12 hN a59 H83 => ?_
            clear H82 a58
            rw [List.nil_append] at hO
            refine wl1 H83 (r_assign rfl) rfl rfl rfl rfl fun a60 H84 => ?_
            clear H83 a59
            refine wl_end ?_
            refine th_n ?_
            refine wpIn_seq ?_
            refine w_reg ?_
            refine wl1 H84 (r_move rfl) rfl rfl rfl rfl fun a61 H85 => ?_
            clear H84 a60
            obtain ⟨zs, hzs⟩ : ∃ z, z = rs.take k ++ ts := ⟨_, rfl⟩
            rw [← hzs] at hO hjz hlz hgz hcl hE4 hc4 H85
            obtain ⟨Kz12, Az, cAz, hN, hleKz12, hsmKz12, rfl, hcAz, hEz⟩ := hO.freeze hN (Nat.le_refl _)
            replace hA := hA.up hleKz12
            replace hY := hY.up hleKz12
            replace hE1 := hE1.up hleKz12
            replace hE2 := hE2.up hleKz12
            replace hE4 := hE4.up hleKz12
            replace hleJ1 := hleJ1.trans hleKz12
            refine wlc  H85 rfl rfl hb22 rfl (lmade hN.sat hEz (by rw [hzs]; simp; omega)) fun v w14 hR a62 H86 => ?_
            clear H85 a61
            obtain ⟨J14, nw14, ⟨A7, c7, A8, c8, rfl, hc7, hE7, hc8, hE8⟩⟩ := hR
            replace hA := hA.up nw14.le
            replace hY := hY.up nw14.le
            replace hE1 := hE1.up nw14.le
            replace hE2 := hE2.up nw14.le
            replace hE4 := hE4.up nw14.le
            replace hEz := hEz.up nw14.le
            replace hleJ1 := hleJ1.trans nw14.le
            have hN := hN.trans nw14
            rw [hjz] at H86 hc7 hE7
            refine wl1 H86 (r_move rfl) rfl rfl rfl rfl fun a63 H87 => ?_
            clear H86 a62
            refine wl1 H87 (r_extract rfl rfl) rfl rfl rfl rfl fun a64 H88 => ?_
            clear H87 a63
            refine wl1 H88 (r_extract rfl rfl) rfl rfl rfl rfl fun a65 H89 => ?_
            clear H88 a64
            refine wl1 H89 (r_assign rfl) rfl rfl rfl rfl fun a66 H90 => ?_
            clear H89 a65
            refine wl1 H90 (r_assign rfl) rfl rfl rfl rfl fun a67 H91 => ?_
            clear H90 a66
            refine wl_end ?_
            refine th_n ?_
            refine wpIn_seq ?_
            refine w_reg ?_
            refine wl1 H91 (r_move rfl) rfl rfl rfl rfl fun a68 H92 => ?_
            clear H91 a67
            refine wl1 H92 (r_move rfl) rfl rfl rfl rfl fun a69 H93 => ?_
            clear H92 a68
            refine wlc  H93 rfl rfl hb17 rfl (rsame8 hN.sat hE4 hE7) fun v w15 hR a70 H94 => ?_
            clear H93 a69
            obtain ⟨rfl, gw15⟩ := hR
            have hN := hN.ofGr gw15
            replace H94 := H94.known (t := 85) (b := true) rfl (by simp)
            refine wl1 H94 (r_move rfl) rfl rfl rfl rfl fun a71 H95 => ?_
            clear H94 a70
            refine wl_on (d := 86) H95 rfl rfl rfl ?_
            refine wl1 H95 (r_move rfl) rfl rfl rfl rfl fun a72 H96 => ?_
            clear H95 a71
            refine wl_on (d := 86) H96 rfl rfl rfl ?_
            refine wlc  H96 rfl rfl hb12 rfl (lread hN.sat hE4 hc4 (by omega)) fun v w16 hR a73 H97 => ?_
            clear H96 a72
            obtain ⟨J16, nw16, ⟨A9, c9, A10, c10, rfl, hc9, hE9, hc10, hE10⟩⟩ := hR
            replace hA := hA.up nw16.le
            replace hY := hY.up nw16.le
            replace hE1 := hE1.up nw16.le
            replace hE2 := hE2.up nw16.le
            replace hE4 := hE4.up nw16.le
            replace hEz := hEz.up nw16.le
            replace hE7 := hE7.up nw16.le
            replace hleJ1 := hleJ1.trans nw16.le
            have hN := hN.trans nw16
            simp only [jall_chain' hgz] at H97 hE9
            refine wl_on (d := 86) H97 rfl rfl rfl ?_
            refine wl1 H97 (r_fieldv 0 rfl rfl (by kernel_rfl)) rfl rfl rfl rfl fun a74 H98 => ?_
            clear H97 a73
            refine wl_on (d := 86) H98 rfl rfl rfl ?_
            refine wl1 H98 (r_move rfl) rfl rfl rfl rfl fun a75 H99 => ?_
            clear H98 a74
            refine wl_on (d := 86) H99 rfl rfl rfl ?_
            refine wlc  H99 rfl rfl hb16 rfl (rrecords hN.sat hE9 hEz) fun v w17 hR a76 H100 => ?_
            clear H99 a75
            obtain ⟨rfl, gw17⟩ := hR
            have hN := hN.ofGr gw17
            replace H100 := H100.known (t := 91) (b := true) rfl (by simp)
            refine wl1 H100 (r_pick_t rfl rfl) rfl rfl rfl rfl fun a77 H101 => ?_
            clear H100 a76
            refine wl1 H101 (r_move rfl) rfl rfl rfl rfl fun a78 H102 => ?_
            clear H101 a77
            refine wl_on (d := 93) H102 rfl rfl rfl ?_
            refine wl1 H102 (r_move rfl) rfl rfl rfl rfl fun a79 H103 => ?_
            clear H102 a78
            refine wl1 H103 (r_pick_t rfl rfl) rfl rfl rfl rfl fun a80 H104 => ?_
            clear H103 a79
            refine wl1 H104 (r_assign rfl) rfl rfl rfl rfl fun a81 H105 => ?_
            clear H104 a80
            refine wl_end ?_
            refine th_n ?_
            refine wpIn_ret ?_
            refine fin_r H105 (res1 rfl H105 rfl) ?_
            exact ⟨rfl, hN.gr⟩
      ·
        clear H43
        try simp only [decide_eq_true_eq, decide_eq_false_iff_not, Bool.or_eq_true, Bool.and_eq_true, Bool.or_eq_false_iff, Bool.and_eq_false_iff, Bool.not_eq_true', Bool.not_eq_false', Int.not_lt, Int.not_le, ne_eq, Decidable.not_not] at hg9_4
        have hkx : k < rs.length → n0 < lenR (rs.take (k + 1)) := fun h => by rw [jends_length] at hg9_4; omega
        have hjl0 : jall (jl.take n0) 0 = ⟨rs.take k, lenR (rs.take k), lastK 0 (rs.take k)⟩ := by rw [hjl]; exact jall_part hgd hk hk1 hkx
        have hlk := lenR_take rs k
        refine wl_off (d := 44) H44 rfl rfl rfl rfl rfl rfl fun a35 H106 => ?_
        clear H44 a34
        refine wl_off (d := 44) H106 rfl rfl rfl rfl rfl rfl fun a36 H107 => ?_
        clear H106 a35
        refine wl_off (d := 44) H107 rfl rfl rfl rfl rfl rfl fun a37 H108 => ?_
        clear H107 a36
        refine wl_off (d := 44) H108 rfl rfl rfl rfl rfl rfl fun a38 H109 => ?_
        clear H108 a37
        refine wl_off (d := 44) H109 rfl rfl rfl rfl rfl rfl fun a39 H110 => ?_
        clear H109 a38
        refine wl_off (d := 44) H110 rfl rfl rfl rfl rfl rfl fun a40 H111 => ?_
        clear H110 a39
        refine wl1 H111 (r_pick_f rfl rfl) rfl rfl rfl rfl fun a41 H112 => ?_
        clear H111 a40
        refine wl_end ?_
        refine th_n ?_
        refine w_ff H112 rfl rfl ?_
        refine wpIn_exit ?_
        refine th_x ?_
        refine th_x ?_
        refine bl_hit ?_
        refine th_n ?_
        refine wpIn_seq ?_
        refine w_reg ?_
        refine wl1 H112 (r_move rfl) rfl rfl rfl rfl fun a42 H113 => ?_
        clear H112 a41
        refine wl1 H113 (r_move rfl) rfl rfl rfl rfl fun a43 H114 => ?_
        clear H113 a42
        refine wlc  H114 rfl rfl hb20 rfl (jcut hN.sat hc1) fun v w18 hR a44 H115 => ?_
        clear H114 a43
        obtain ⟨rfl, gw18⟩ := hR
        have hN := hN.ofGr gw18
        rw [show (min (max (n0 : Int) 0) (jl.length : Int)).toNat = (jl.take n0).length by simp; omega] at H115
        refine wlc  H115 rfl rfl hb18 rfl (jwhole (l := jl.take n0) hN.sat (hE1.take n0) (by simp; omega) (by simp; omega)) fun v w19 hR a45 H116 => ?_
        clear H115 a44
        obtain ⟨rfl, gw19⟩ := hR
        have hN := hN.ofGr gw19
        rw [hjl0] at H116
        dsimp only at H116
        have hq0 : (chainB 0 (rs.take k)).length = lenR (rs.take k) := chainB_length _ _
        rw [← hq0] at H116
        have hq1 : (chainB 0 (rs.take k)).length ≤ c1 := by omega
        have hq2 : Els (kInt .u8) J4 A1 (chainB 0 (rs.take k)) := by have := hE1.take (lenR (rs.take k)); rw [hjl, chain_take] at this; exact this
        refine wl1 H116 (r_assign rfl) rfl rfl rfl rfl fun a46 H117 => ?_
        clear H116 a45
        refine wl_end ?_
        refine th_n ?_
        refine wpIn_seq ?_
        refine wpIn_seq ?_
        refine w_reg ?_
        refine wl1 H117 (r_assign rfl) rfl rfl rfl rfl fun a47 H118 => ?_
        clear H117 a46
        refine wl_end ?_
        refine th_n ?_
        refine wpIn_block ?_
        refine w_loop (ι := (Nat × Option Addr × Nat) × Im) (fun xJ => (fun x => [(13, .int .i64 (x.1 : Int)), (12, .slice x.2.1 ((ts.take x.1).foldl putB (chainB 0 (rs.take k))).length x.2.2)]) xJ.1) (fun xJ W => Im.le J4 xJ.2 ∧ New I w xJ.2 W ∧ (fun x (J : Im) => x.1 ≤ ts.length ∧ ((ts.take x.1).foldl putB (chainB 0 (rs.take k))).length ≤ x.2.2 ∧ Els (kInt .u8) J x.2.1 ((ts.take x.1).foldl putB (chainB 0 (rs.take k)))) xJ.1 xJ.2) (fun xJ => (fun x => ts.length - x.1) xJ.1) (l0 := [(0, _), (1, _), (6, _), (7, _), (11, _)]) ((0, A1, c1), J4) H118 ⟨rfl, rfl, rfl, rfl, rfl, rfl, rfl, trivial⟩ ⟨Im.le.refl _, hN, Nat.zero_le _, hq1, hq2⟩ ?_
        rintro ⟨⟨i, A4, c4⟩, J20⟩ a48 w20 H119 ⟨hleJ1, hN, hi, hc4, hE4⟩
        clear H118 a47
        simp only [List.cons_append, List.nil_append] at H119
        try dsimp only at hleJ1
        try dsimp only at hN
        replace hA := hA.up hleJ1
        replace hY := hY.up hleJ1
        replace hE1 := hE1.up hleJ1
        replace hE2 := hE2.up hleJ1
        simp only at hi hc4 hE4 H119
        try dsimp only at hE4
        try dsimp only at hc4
        try dsimp only at hi
        refine wpIn_seq ?_
        refine wpIn_seq ?_
        refine w_reg ?_
        refine wl1 H119 (r_move rfl) rfl rfl rfl rfl fun a49 H120 => ?_
        clear H119 a48
        refine wl1 H120 (r_move rfl) rfl rfl rfl rfl fun a50 H121 => ?_
        clear H120 a49
        refine wl1 H121 (r_len Try.underlying23 rfl) rfl rfl rfl rfl fun a51 H122 => ?_
        clear H121 a50
        refine wl1 H122 (r_lss rfl rfl) rfl rfl rfl rfl fun a52 H123 => ?_
        clear H122 a51
        refine wl_end ?_
        refine th_n ?_
        first | refine w_if H123 rfl (fun hc61 => ?_) (fun hc61 => ?_) | refine w_cond H123 rfl (fun hc61 => ?_) (fun hc61 => ?_)
        ·
          try simp only [decide_eq_true_eq, decide_eq_false_iff_not, Bool.or_eq_true, Bool.and_eq_true, Bool.or_eq_false_iff, Bool.and_eq_false_iff, Bool.not_eq_true', Bool.not_eq_false', Int.not_lt, Int.not_le, ne_eq, Decidable.not_not] at hc61
          obtain ⟨bB, oB, rfl⟩ := hY.form (by omega)
          have hil : i < ts.length := by omega
          obtain ⟨AA, cA, hcA, hlA, hEA⟩ := hY.rowAt hil
          have hfl := foldl_putB_le (ts.take i) (chainB 0 (rs.take k)) (by rw [chainB_length]; omega)
          refine wpIn_skip ?_
          refine th_n ?_
          refine wpIn_seq ?_
          refine wpIn_block ?_
          refine w_reg ?_
          refine wl1 H123 (r_move rfl) rfl rfl rfl rfl fun a53 H124 => ?_
          clear H123 a52
          refine wl1 H124 (r_move rfl) rfl rfl rfl rfl fun a54 H125 => ?_
          clear H124 a53
          refine wl1 H125 (r_move rfl) rfl rfl rfl rfl fun a55 H126 => ?_
          clear H125 a54
          refine wl1 H126 (r_idx Try.underlying23 sz29 rfl rfl (i := i) rfl (by omega)) rfl rfl rfl rfl fun a56 H127 => ?_
          clear H126 a55
          refine wl1 H127 (r_load sc29 rfl (hN.sat.cell hcA)) rfl rfl rfl rfl fun a57 H128 => ?_
          clear H127 a56
          refine wlc  H128 rfl rfl hb14 rfl (lput hN.sat hE4 hc4 (by omega) hEA hlA) fun v w21 hR a58 H129 => ?_
          clear H128 a57
          obtain ⟨J21, nw21, ⟨A5, c5, rfl, hc5, hE5⟩⟩ := hR
          replace hA := hA.up nw21.le
          replace hY := hY.up nw21.le
          replace hE1 := hE1.up nw21.le
          replace hE2 := hE2.up nw21.le
          replace hE4 := hE4.up nw21.le
          replace hleJ1 := hleJ1.trans nw21.le
          have hN := hN.trans nw21
          rw [← foldl_take hil] at H129 hc5 hE5
          refine wl1 H129 (r_fieldv 0 rfl rfl (by kernel_rfl)) rfl rfl rfl rfl fun a59 H130 => ?_
          clear H129 a58
          refine wl1 H130 (r_assign rfl) rfl rfl rfl rfl fun a60 H131 => ?_
          clear H130 a59
          refine wl_end ?_
          refine bl_n ?_
          refine th_n ?_
          refine w_reg ?_
          refine wl1 H131 (r_move rfl) rfl rfl rfl rfl fun a61 H132 => ?_
          clear H131 a60
          first | refine wl1 H132 (r_addk rfl rfl (by simp only [InK]; omega)) rfl rfl rfl rfl fun a62 H133 => ?_ | refine wl1 H132 (r_add rfl rfl) rfl rfl rfl rfl fun a62 H133 => ?_
          clear H132 a61
          refine wl1 H133 (r_assign rfl) rfl rfl rfl rfl fun a63 H134 => ?_
          clear H133 a62
          refine wl_end ?_
          exact th_n ⟨((i + 1, A5, c5), J21), (by show ts.length - (i + 1) < ts.length - i; omega), H134.sub ⟨rfl, rfl, rfl, rfl, rfl, rfl, rfl, trivial⟩, hleJ1, hN, by show i + 1 ≤ ts.length; omega, hc5, hE5⟩
        ·
          try simp only [decide_eq_true_eq, decide_eq_false_iff_not, Bool.or_eq_true, Bool.and_eq_true, Bool.or_eq_false_iff, Bool.and_eq_false_iff, Bool.not_eq_true', Bool.not_eq_false', Int.not_lt, Int.not_le, ne_eq, Decidable.not_not] at hc61
          rw [show i = ts.length by omega, List.take_length] at H123 hE4 hc4
          have hgz : good (rs.take k ++ ts) := fun r hr => by
            rcases List.mem_append.1 hr with h | h
            · exact hgd.take k r h
            · exact hgd2 r h
          have hlz : lenR (rs.take k ++ ts) ≤ 4000 := by rw [lenR_append]; omega
          rw [foldl_chain ts (rs.take k) hgz (by omega)] at H123 hE4 hc4
          have hjz : jfold (rs.take k ++ ts) = chainB 0 (rs.take k ++ ts) := jfold_chain hgz (by omega)
          have hcl := chainB_length 0 (rs.take k ++ ts)
          refine wpIn_exit ?_
          refine th_x ?_
          refine th_x ?_
          refine bl_hit ?_
          refine th_n ?_
          refine wpIn_seq ?_
          refine w_reg ?_
          refine s_lit1 (cs := []) H123 Try.underlying23 sz29 zv29 rfl rfl rfl (by simp [Value.oneCell']) rfl hN fun w22 l71 K22 hKl71 hlel71 hN nw22 hgel71 a53 H135 => ?_
          clear H123 a52
          replace hA := hA.up nw22.le
          replace hY := hY.up nw22.le
          replace hE1 := hE1.up nw22.le
          replace hE2 := hE2.up nw22.le
          replace hE4 := hE4.up nw22.le
          replace hleJ1 := hleJ1.trans nw22.le
          refine wl1 H135 (r_move rfl) rfl rfl rfl rfl fun a54 H136 => ?_
          clear H135 a53
          refine wl1 H136 (r_move rfl) rfl rfl rfl rfl fun a55 H137 => ?_
          clear H136 a54
          refine wl1 H137 (r_upto (hi := (rs.take k).length) Try.underlying23 sz29 rfl rfl (by simp; omega) (by simp; omega)) rfl rfl rfl rfl fun a56 H138 => ?_
          clear H137 a55
          refine s_app (d := kSl (kInt .i64)) (B := w.heap.size) H138 rfl rfl Try.underlying23 nf29 rfl (by decide) (by decide) rfl hN (.inr ⟨_, rfl, Els.nil _ _ _⟩) (hA.take k) rfl (Nat.le_refl _) hN.gr.size (by simp; omega) fun vw23 w23 hO hOO hOO2 kw23 hN a57 H139 => ?_
          clear H138 a56
          refine wl1 H139 (r_move rfl) rfl rfl rfl rfl fun a58 H140 => ?_
          clear H139 a57
          refine s_app (d := kSl (kInt .i64)) (B := w.heap.size) H140 rfl rfl Try.underlying23 nf29 rfl (by decide) (by decide) rfl hN hO hY rfl (Nat.le_refl _) hN.gr.size (by simp; omega) fun vw24 w24 hO hOO hOO2 kw24 hN a59 H141 => ?_
          clear H140 a58
          rw [List.nil_append] at hO
          refine wl1 H141 (r_assign rfl) rfl rfl rfl rfl fun a60 H142 => ?_
          clear H141 a59
          refine wl_end ?_
          refine th_n ?_
          refine wpIn_seq ?_
          refine w_reg ?_
          refine wl1 H142 (r_move rfl) rfl rfl rfl rfl fun a61 H143 => ?_
          clear H142 a60
          obtain ⟨zs, hzs⟩ : ∃ z, z = rs.take k ++ ts := ⟨_, rfl⟩
          rw [← hzs] at hO hjz hlz hgz hcl hE4 hc4 H143
          obtain ⟨Kz24, Az, cAz, hN, hleKz24, hsmKz24, rfl, hcAz, hEz⟩ := hO.freeze hN (Nat.le_refl _)
          replace hA := hA.up hleKz24
          replace hY := hY.up hleKz24
          replace hE1 := hE1.up hleKz24
          replace hE2 := hE2.up hleKz24
          replace hE4 := hE4.up hleKz24
          replace hleJ1 := hleJ1.trans hleKz24
          refine wlc  H143 rfl rfl hb22 rfl (lmade hN.sat hEz (by rw [hzs]; simp; omega)) fun v w26 hR a62 H144 => ?_
          clear H143 a61
          obtain ⟨J26, nw26, ⟨A7, c7, A8, c8, rfl, hc7, hE7, hc8, hE8⟩⟩ := hR
          replace hA := hA.up nw26.le
          replace hY := hY.up nw26.le
          replace hE1 := hE1.up nw26.le
          replace hE2 := hE2.up nw26.le
          replace hE4 := hE4.up nw26.le
          replace hEz := hEz.up nw26.le
          replace hleJ1 := hleJ1.trans nw26.le
          have hN := hN.trans nw26
          rw [hjz] at H144 hc7 hE7
          refine wl1 H144 (r_move rfl) rfl rfl rfl rfl fun a63 H145 => ?_
          clear H144 a62
          refine wl1 H145 (r_extract rfl rfl) rfl rfl rfl rfl fun a64 H146 => ?_
          clear H145 a63
          refine wl1 H146 (r_extract rfl rfl) rfl rfl rfl rfl fun a65 H147 => ?_
          clear H146 a64
          refine wl1 H147 (r_assign rfl) rfl rfl rfl rfl fun a66 H148 => ?_
          clear H147 a65
          refine wl1 H148 (r_assign rfl) rfl rfl rfl rfl fun a67 H149 => ?_
          clear H148 a66
          refine wl_end ?_
          refine th_n ?_
          refine wpIn_seq ?_
          refine w_reg ?_
          refine wl1 H149 (r_move rfl) rfl rfl rfl rfl fun a68 H150 => ?_
          clear H149 a67
          refine wl1 H150 (r_move rfl) rfl rfl rfl rfl fun a69 H151 => ?_
          clear H150 a68
          refine wlc  H151 rfl rfl hb17 rfl (rsame8 hN.sat hE4 hE7) fun v w27 hR a70 H152 => ?_
          clear H151 a69
          obtain ⟨rfl, gw27⟩ := hR
          have hN := hN.ofGr gw27
          replace H152 := H152.known (t := 85) (b := true) rfl (by simp)
          refine wl1 H152 (r_move rfl) rfl rfl rfl rfl fun a71 H153 => ?_
          clear H152 a70
          refine wl_on (d := 86) H153 rfl rfl rfl ?_
          refine wl1 H153 (r_move rfl) rfl rfl rfl rfl fun a72 H154 => ?_
          clear H153 a71
          refine wl_on (d := 86) H154 rfl rfl rfl ?_
          refine wlc  H154 rfl rfl hb12 rfl (lread hN.sat hE4 hc4 (by omega)) fun v w28 hR a73 H155 => ?_
          clear H154 a72
          obtain ⟨J28, nw28, ⟨A9, c9, A10, c10, rfl, hc9, hE9, hc10, hE10⟩⟩ := hR
          replace hA := hA.up nw28.le
          replace hY := hY.up nw28.le
          replace hE1 := hE1.up nw28.le
          replace hE2 := hE2.up nw28.le
          replace hE4 := hE4.up nw28.le
          replace hEz := hEz.up nw28.le
          replace hE7 := hE7.up nw28.le
          replace hleJ1 := hleJ1.trans nw28.le
          have hN := hN.trans nw28
          simp only [jall_chain' hgz] at H155 hE9
          refine wl_on (d := 86) H155 rfl rfl rfl ?_
          refine wl1 H155 (r_fieldv 0 rfl rfl (by kernel_rfl)) rfl rfl rfl rfl fun a74 H156 => ?_
          clear H155 a73
          refine wl_on (d := 86) H156 rfl rfl rfl ?_
          refine wl1 H156 (r_move rfl) rfl rfl rfl rfl fun a75 H157 => ?_
          clear H156 a74
          refine wl_on (d := 86) H157 rfl rfl rfl ?_
          refine wlc  H157 rfl rfl hb16 rfl (rrecords hN.sat hE9 hEz) fun v w29 hR a76 H158 => ?_
          clear H157 a75
          obtain ⟨rfl, gw29⟩ := hR
          have hN := hN.ofGr gw29
          replace H158 := H158.known (t := 91) (b := true) rfl (by simp)
          refine wl1 H158 (r_pick_t rfl rfl) rfl rfl rfl rfl fun a77 H159 => ?_
          clear H158 a76
          refine wl1 H159 (r_move rfl) rfl rfl rfl rfl fun a78 H160 => ?_
          clear H159 a77
          refine wl_on (d := 93) H160 rfl rfl rfl ?_
          refine wl1 H160 (r_move rfl) rfl rfl rfl rfl fun a79 H161 => ?_
          clear H160 a78
          refine wl1 H161 (r_pick_t rfl rfl) rfl rfl rfl rfl fun a80 H162 => ?_
          clear H161 a79
          refine wl1 H162 (r_assign rfl) rfl rfl rfl rfl fun a81 H163 => ?_
          clear H162 a80
          refine wl_end ?_
          refine th_n ?_
          refine wpIn_ret ?_
          refine fin_r H163 (res1 rfl H163 rfl) ?_
          exact ⟨rfl, hN.gr⟩
end Go.Proofs.Yteinlgobadlgnaa
