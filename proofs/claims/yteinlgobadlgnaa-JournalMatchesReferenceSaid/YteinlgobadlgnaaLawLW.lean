/- The law JournalLosses, walked. -/
import Derived.Test.YteinlgobadlgnaaLawCW
set_option linter.unusedVariables false
set_option linter.unusedSimpArgs false
namespace Go.Proofs.Yteinlgobadlgnaa
open Go.RowKit


theorem rsame8' {A B : Option Addr} {c c2 n n2 : Nat} {l m : List Int} {I : Im} {w : World} (hS : Sat I w) (hA : Els (kInt .u8) I A l) (hB : Els (kInt .u8) I B m) (hn : l.length = n) (hm : m.length = n2) :
    Ret Try.prog 17 [.slice A n c, .slice B n2 c2] w (fun v w' => v = .bool (decide (l = m)) ∧ Gr w w') := by subst hn hm; exact rsame8 hS hA hB
theorem rrecords' {A B : Option Addr} {c c2 n n2 : Nat} {l m : List (List Int)} {I : Im} {w : World} (hS : Sat I w) (hA : Els (kSl (kInt .i64)) I A l) (hB : Els (kSl (kInt .i64)) I B m) (hn : l.length = n) (hm : m.length = n2) :
    Ret Try.prog 16 [.slice A n c, .slice B n2 c2] w (fun v w' => v = .bool (decide (l = m)) ∧ Gr w w') := by subst hn hm; exact rrecords hS hA hB
theorem jwhole' {A : Option Addr} {c n : Nat} {l : List Int} {I : Im} {w : World} (hS : Sat I w) (hA : Els (kInt .u8) I A l) (hn : l.length = n) (hlc : n ≤ c) (hmax : n ≤ 16777216) :
    Ret Try.prog 18 [.slice A n c] w (fun v w' => v = .slice A (jall l 0).off c ∧ Gr w w') := by subst hn; exact jwhole hS hA hlc hmax

set_option maxRecDepth 100000 in
set_option maxHeartbeats 2000000 in
theorem losses_ret {A : Option Addr} {c : Nat} {rs : List (List Int)} {x : Int} {I : Im} {w : World} (hS : Sat I w) (hA : Els (kSl (kInt .i64)) I A rs) (hlc : rs.length ≤ c) (hx : 0 ≤ x ∧ x ≤ 65535) :
    Ret Try.prog 5 [.slice A rs.length c, .int .u16 x] w (fun v w' => v = .bool true ∧ Gr w w') := by
  have hxk := hA.rowsIn
  refine ret_of (N := 115) Try.func5 rfl rfl rfl fun a0 H0 => ?_
  have hN := New.refl hS
  simp only [argsEnv, Nat.zero_add, Nat.reduceAdd] at H0
  refine wpIn_seq ?_
  refine w_reg ?_
  refine wl1 H0 (r_assign rfl) rfl rfl rfl rfl fun a1 H1 => ?_
  clear H0 a0
  refine wl_end ?_
  refine th_n ?_
  refine wpIn_seq ?_
  refine w_reg ?_
  refine wlc  H1 rfl rfl hb9 rfl (examples_ret hN.sat) fun v w1 hR a2 H2 => ?_
  clear H1 a1
  obtain ⟨rfl, gw1⟩ := hR
  have hN := hN.ofGr gw1
  replace H2 := H2.known (t := 13) (b := true) rfl rfl
  refine wl1 H2 (r_assign rfl) rfl rfl rfl rfl fun a3 H3 => ?_
  clear H2 a2
  refine wl_end ?_
  refine th_n ?_
  refine wpIn_seq ?_
  refine wpIn_seq ?_
  refine w_reg ?_
  refine wl1 H3 (r_move rfl) rfl rfl rfl rfl fun a4 H4 => ?_
  clear H3 a3
  refine wl1 H4 (r_not rfl) rfl rfl rfl rfl fun a5 H5 => ?_
  clear H4 a4
  replace H5 := H5.known (t := 15) (b := false) rfl rfl
  refine wl_end ?_
  refine th_n ?_
  refine w_ff H5 rfl rfl ?_
  refine wpIn_skip ?_
  refine th_n ?_
  refine wpIn_seq ?_
  refine wpIn_seq ?_
  refine w_reg ?_
  refine wl1 H5 (r_move rfl) rfl rfl rfl rfl fun a6 H6 => ?_
  clear H5 a5
  refine wlc  H6 rfl rfl hb10 rfl (rsmall hN.sat hA) fun v w2 hR a7 H7 => ?_
  clear H6 a6
  obtain ⟨rfl, gw2⟩ := hR
  have hN := hN.ofGr gw2
  refine wl1 H7 (r_not rfl) rfl rfl rfl rfl fun a8 H8 => ?_
  clear H7 a7
  refine wl_end ?_
  refine th_n ?_
  first | refine w_if H8 rfl (fun hc18 => ?_) (fun hc18 => ?_) | refine w_cond H8 rfl (fun hc18 => ?_) (fun hc18 => ?_)
  ·
    try simp only [decide_eq_true_eq, decide_eq_false_iff_not, Bool.or_eq_true, Bool.and_eq_true, Bool.or_eq_false_iff, Bool.and_eq_false_iff, Bool.not_eq_true', Bool.not_eq_false', Int.not_lt, Int.not_le, ne_eq, Decidable.not_not] at hc18
    refine wpIn_seq ?_
    refine w_reg ?_
    refine wl1 H8 (r_move rfl) rfl rfl rfl rfl fun a9 H9 => ?_
    clear H8 a8
    refine wl1 H9 (r_assign rfl) rfl rfl rfl rfl fun a10 H10 => ?_
    clear H9 a9
    refine wl_end ?_
    refine th_n ?_
    refine wpIn_ret ?_
    refine th_r ?_
    refine fin_r H10 (res1 rfl H10 rfl) ?_
    exact ⟨rfl, hN.gr⟩
  ·
    try simp only [decide_eq_true_eq, decide_eq_false_iff_not, Bool.or_eq_true, Bool.and_eq_true, Bool.or_eq_false_iff, Bool.and_eq_false_iff, Bool.not_eq_true', Bool.not_eq_false', Int.not_lt, Int.not_le, ne_eq, Decidable.not_not] at hc18
    have hsm := small_lenR hc18
    have hgd := small_good hc18 hxk
    have hjf := small_jfold hc18 hxk
    obtain ⟨jl, hjl⟩ : ∃ x, x = chainB 0 rs := ⟨_, rfl⟩
    have hjn : jl.length = lenR rs := by rw [hjl, chainB_length]
    have hrl := (small_len hc18).1
    refine wpIn_skip ?_
    refine th_n ?_
    refine wpIn_seq ?_
    refine w_reg ?_
    refine wl1 H8 (r_move rfl) rfl rfl rfl rfl fun a9 H11 => ?_
    clear H8 a8
    refine wlc  H11 rfl rfl hb22 rfl (lmade hN.sat hA (by omega)) fun v w3 hR a10 H12 => ?_
    clear H11 a9
    obtain ⟨J3, nw3, ⟨A1, c1, A2, c2, rfl, hc1, hE1, hc2, hE2⟩⟩ := hR
    replace hA := hA.up nw3.le
    have hN := hN.trans nw3
    rw [hjf, ← hjl] at H12 hc1 hE1
    refine wl1 H12 (r_move rfl) rfl rfl rfl rfl fun a11 H13 => ?_
    clear H12 a10
    refine wl1 H13 (r_extract rfl rfl) rfl rfl rfl rfl fun a12 H14 => ?_
    clear H13 a11
    refine wl1 H14 (r_extract rfl rfl) rfl rfl rfl rfl fun a13 H15 => ?_
    clear H14 a12
    refine wl1 H15 (r_assign rfl) rfl rfl rfl rfl fun a14 H16 => ?_
    clear H15 a13
    refine wl1 H16 (r_assign rfl) rfl rfl rfl rfl fun a15 H17 => ?_
    clear H16 a14
    refine wl_end ?_
    refine th_n ?_
    refine wpIn_seq ?_
    refine w_reg ?_
    refine wl1 H17 (r_move rfl) rfl rfl rfl rfl fun a16 H18 => ?_
    clear H17 a15
    first | refine wl1 H18 (r_convk Try.underlying24 Try.underlying3 rfl (by simp only [InK]; omega)) rfl rfl rfl rfl fun a17 H19 => ?_ | refine wl1 H18 (r_conv Try.underlying24 Try.underlying3 rfl) rfl rfl rfl rfl fun a17 H19 => ?_
    clear H18 a16
    refine wl1 H19 (r_move rfl) rfl rfl rfl rfl fun a18 H20 => ?_
    clear H19 a17
    refine wl1 H20 (r_len Try.underlying22 rfl) rfl rfl rfl rfl fun a19 H21 => ?_
    clear H20 a18
    first | refine wl1 H21 (r_addk rfl rfl (by simp only [InK]; omega)) rfl rfl rfl rfl fun a20 H22 => ?_ | refine wl1 H21 (r_add rfl rfl) rfl rfl rfl rfl fun a20 H22 => ?_
    clear H21 a19
    refine wl1 H22 (r_remk rfl rfl (by omega) (by omega)) rfl rfl rfl rfl fun a21 H23 => ?_
    clear H22 a20
    obtain ⟨n0, hn0⟩ : ∃ n : Nat, x % ((jl.length : Int) + 1) = (n : Int) := ⟨(x % ((jl.length : Int) + 1)).toNat, by have := Int.emod_nonneg x (show (jl.length : Int) + 1 ≠ 0 by omega); omega⟩
    have hn1 : n0 ≤ jl.length := by have := Int.emod_lt_of_pos x (show (0 : Int) < (jl.length : Int) + 1 by omega); omega
    rw [hn0] at H23
    refine wl1 H23 (r_assign rfl) rfl rfl rfl rfl fun a22 H24 => ?_
    clear H23 a21
    refine wl_end ?_
    refine th_n ?_
    refine wpIn_seq ?_
    refine w_reg ?_
    refine wl1 H24 (r_assign rfl) rfl rfl rfl rfl fun a23 H25 => ?_
    clear H24 a22
    refine wl1 H25 (r_assign rfl) rfl rfl rfl rfl fun a24 H26 => ?_
    clear H25 a23
    refine wl_end ?_
    refine th_n ?_
    refine wpIn_seq ?_
    refine wpIn_block ?_
    refine w_loop (ι := Nat) (fun k => [(9, .int .i64 (k : Int)), (10, .int .i64 ((lenR (rs.take k) : Nat) : Int))]) (fun k W => New I w J3 W ∧ (k ≤ rs.length ∧ lenR (rs.take k) ≤ n0)) (fun k => rs.length - k) (l0 := [(0, _), (4, _), (5, _), (6, _), (7, _), (8, _)]) 0 H26 ⟨rfl, rfl, rfl, rfl, rfl, rfl, rfl, rfl, trivial⟩ ⟨hN, Nat.zero_le _, Nat.zero_le _⟩ ?_
    rintro k a25 w4 H27 ⟨hN, hk, hk1⟩
    clear H26 a24
    simp only [List.cons_append, List.nil_append] at H27
    refine wpIn_seq ?_
    refine wpIn_seq ?_
    refine w_reg ?_
    refine wl1 H27 (r_move rfl) rfl rfl rfl rfl fun a26 H28 => ?_
    clear H27 a25
    refine wl1 H28 (r_move rfl) rfl rfl rfl rfl fun a27 H29 => ?_
    clear H28 a26
    refine wl1 H29 (r_len Try.underlying29 rfl) rfl rfl rfl rfl fun a28 H30 => ?_
    clear H29 a27
    refine wl1 H30 (r_lss rfl rfl) rfl rfl rfl rfl fun a29 H31 => ?_
    clear H30 a28
    refine wl1 H31 (r_move rfl) rfl rfl rfl rfl fun a30 H32 => ?_
    clear H31 a29
    refine wl_split (t := 35) H32 rfl (fun hg9_4 H33 => ?_) (fun hg9_4 H33 => ?_)
    ·
      clear H32
      try simp only [decide_eq_true_eq, decide_eq_false_iff_not, Bool.or_eq_true, Bool.and_eq_true, Bool.or_eq_false_iff, Bool.and_eq_false_iff, Bool.not_eq_true', Bool.not_eq_false', Int.not_lt, Int.not_le, ne_eq, Decidable.not_not] at hg9_4
      obtain ⟨b2, o2, rfl⟩ := hE2.form (by omega)
      have hkr : k < rs.length := by rw [jends_length] at hg9_4; omega
      have hkj : k < (jends rs).length := by omega
      refine wl_on (d := 35) H33 rfl rfl rfl ?_
      refine wl1 H33 (r_move rfl) rfl rfl rfl rfl fun a31 H34 => ?_
      clear H33 a30
      refine wl_on (d := 35) H34 rfl rfl rfl ?_
      refine wl1 H34 (r_move rfl) rfl rfl rfl rfl fun a32 H35 => ?_
      clear H34 a31
      refine wl_on (d := 35) H35 rfl rfl rfl ?_
      refine wl1 H35 (r_idx Try.underlying29 sz3 rfl rfl (i := k) rfl (by omega)) rfl rfl rfl rfl fun a33 H36 => ?_
      clear H35 a32
      refine wl_on (d := 35) H36 rfl rfl rfl ?_
      refine wl1 H36 (r_load sc3 rfl (hN.sat.cell (hE2.num (j := k) hkj).1)) rfl rfl rfl rfl fun a34 H37 => ?_
      clear H36 a33
      rw [jends_at hgd (by omega) hkj] at H37
      refine wl_on (d := 35) H37 rfl rfl rfl ?_
      refine wl1 H37 (r_move rfl) rfl rfl rfl rfl fun a35 H38 => ?_
      clear H37 a34
      refine wl_on (d := 35) H38 rfl rfl rfl ?_
      refine wl1 H38 (r_leq rfl rfl) rfl rfl rfl rfl fun a36 H39 => ?_
      clear H38 a35
      refine wl1 H39 (r_pick_t rfl rfl) rfl rfl rfl rfl fun a37 H40 => ?_
      clear H39 a36
      refine wl_end ?_
      refine th_n ?_
      first | refine w_if H40 rfl (fun hc42 => ?_) (fun hc42 => ?_) | refine w_cond H40 rfl (fun hc42 => ?_) (fun hc42 => ?_)
      ·
        try simp only [decide_eq_true_eq, decide_eq_false_iff_not, Bool.or_eq_true, Bool.and_eq_true, Bool.or_eq_false_iff, Bool.and_eq_false_iff, Bool.not_eq_true', Bool.not_eq_false', Int.not_lt, Int.not_le, ne_eq, Decidable.not_not] at hc42
        refine wpIn_skip ?_
        refine th_n ?_
        refine wpIn_block ?_
        refine wpIn_seq ?_
        refine w_reg ?_
        refine wl1 H40 (r_move rfl) rfl rfl rfl rfl fun a38 H41 => ?_
        clear H40 a37
        refine wl1 H41 (r_move rfl) rfl rfl rfl rfl fun a39 H42 => ?_
        clear H41 a38
        refine wl1 H42 (r_idx Try.underlying29 sz3 rfl rfl (i := k) rfl (by omega)) rfl rfl rfl rfl fun a40 H43 => ?_
        clear H42 a39
        refine wl1 H43 (r_load sc3 rfl (hN.sat.cell (hE2.num (j := k) hkj).1)) rfl rfl rfl rfl fun a41 H44 => ?_
        clear H43 a40
        rw [jends_at hgd (by omega) hkj] at H44
        refine wl1 H44 (r_assign rfl) rfl rfl rfl rfl fun a42 H45 => ?_
        clear H44 a41
        refine wl_end ?_
        refine th_n ?_
        refine w_reg ?_
        refine wl1 H45 (r_move rfl) rfl rfl rfl rfl fun a43 H46 => ?_
        clear H45 a42
        first | refine wl1 H46 (r_addk rfl rfl (by simp only [InK]; omega)) rfl rfl rfl rfl fun a44 H47 => ?_ | refine wl1 H46 (r_add rfl rfl) rfl rfl rfl rfl fun a44 H47 => ?_
        clear H46 a43
        refine wl1 H47 (r_assign rfl) rfl rfl rfl rfl fun a45 H48 => ?_
        clear H47 a44
        refine wl_end ?_
        refine bl_n ?_
        exact th_n ⟨k + 1, (by omega), H48.sub ⟨rfl, rfl, rfl, rfl, rfl, rfl, rfl, rfl, trivial⟩, hN, by omega, by omega⟩
      ·
        try simp only [decide_eq_true_eq, decide_eq_false_iff_not, Bool.or_eq_true, Bool.and_eq_true, Bool.or_eq_false_iff, Bool.and_eq_false_iff, Bool.not_eq_true', Bool.not_eq_false', Int.not_lt, Int.not_le, ne_eq, Decidable.not_not] at hc42
        have hkx : k < rs.length → n0 < lenR (rs.take (k + 1)) := fun _ => by omega
        have hjl0 : jall (jl.take n0) 0 = ⟨rs.take k, lenR (rs.take k), lastK 0 (rs.take k)⟩ := by rw [hjl]; exact jall_part hgd hk hk1 hkx
        have hlk := lenR_take rs k
        have hln : (jl.take n0).length = n0 := by simp; omega
        obtain ⟨pl, hpl⟩ : ∃ p, p = jl.take n0 := ⟨_, rfl⟩
        rw [← hpl] at hjl0 hln
        obtain ⟨lo, hlo⟩ : ∃ q, q = lenR (rs.take k) := ⟨_, rfl⟩
        rw [← hlo] at hjl0 hk1 hlk H40
        have hdt : pl.drop lo = (jl.drop lo).take (n0 - lo) := by rw [hpl]; exact List.drop_take
        have hpt : pl.take lo = jl.take lo := by rw [hpl, List.take_take, Nat.min_eq_left (by omega)]
        have hrk : (rs.take k).length = k := by simp; omega
        refine wpIn_exit ?_
        refine th_x ?_
        refine th_x ?_
        refine bl_hit ?_
        refine th_n ?_
        refine wpIn_seq ?_
        refine w_reg ?_
        refine wl1 H40 (r_move rfl) rfl rfl rfl rfl fun a38 H49 => ?_
        clear H40 a37
        refine wl1 H49 (r_move rfl) rfl rfl rfl rfl fun a39 H50 => ?_
        clear H49 a38
        refine wlc  H50 rfl rfl hb20 rfl (jcut hN.sat hc1) fun v w5 hR a40 H51 => ?_
        clear H50 a39
        obtain ⟨rfl, gw5⟩ := hR
        have hN := hN.ofGr gw5
        rw [show (min (max (n0 : Int) 0) (jl.length : Int)).toNat = pl.length by omega] at H51
        have hP : Els (kInt .u8) J3 A1 pl := by rw [hpl]; exact hE1.take n0
        refine wl1 H51 (r_assign rfl) rfl rfl rfl rfl fun a41 H52 => ?_
        clear H51 a40
        refine wl_end ?_
        refine th_n ?_
        refine wpIn_seq ?_
        refine w_reg ?_
        refine wl1 H52 (r_move rfl) rfl rfl rfl rfl fun a42 H53 => ?_
        clear H52 a41
        refine wlc  H53 rfl rfl hb12 rfl (lread (l := pl) hN.sat hP (by omega) (by omega)) fun v w6 hR a43 H54 => ?_
        clear H53 a42
        obtain ⟨J6, nw6, ⟨A3, c3, A4, c4, rfl, hc3, hE3, hc4, hE4⟩⟩ := hR
        replace hA := hA.up nw6.le
        replace hE1 := hE1.up nw6.le
        replace hE2 := hE2.up nw6.le
        have hN := hN.trans nw6
        replace hP := hP.up nw6.le
        simp only [hjl0] at H54 hE3 hE4 hc3 hc4
        refine s_alloc H54 zv34 rfl hN fun w7 b12 hN gw7 hB12 hgeb12 heb12 a44 H55 => ?_
        clear H54 a43
        replace hB12 : Box _ _ _ [.slice none 0 0, .slice none 0 0, .int .i64 0, .int .i64 0, .int .u64 0] 34 := hB12
        refine s_storeA (vs := [_, _, _, _, _]) H55 sz34 (by simp) (by simp [Value.oneCell']) rfl rfl hN hB12 (by simp) hgeb12 fun w8 hN hB12 ew8 H56 => ?_
        clear H55
        simp only [Nat.zero_add, Nat.add_zero, Nat.reduceAdd, Nat.reduceMul, List.set_cons_zero, List.set_cons_succ, spliceL] at hB12
        clear ew8
        refine wl_end ?_
        refine th_n ?_
        refine wpIn_seq ?_
        refine wpIn_seq ?_
        refine w_reg ?_
        refine wl1 H56 (r_move rfl) rfl rfl rfl rfl fun a45 H57 => ?_
        clear H56 a44
        refine wl1 H57 (r_move rfl) rfl rfl rfl rfl fun a46 H58 => ?_
        clear H57 a45
        refine wl1 H58 (r_move rfl) rfl rfl rfl rfl fun a47 H59 => ?_
        clear H58 a46
        refine wl1 H59 (r_upto (hi := pl.length) Try.underlying22 sz5 rfl rfl (by omega) (by omega)) rfl rfl rfl rfl fun a48 H60 => ?_
        clear H59 a47
        refine wlc  H60 rfl rfl hb17 rfl (rsame8 hN.sat hP hP) fun v w9 hR a49 H61 => ?_
        clear H60 a48
        obtain ⟨rfl, gw9⟩ := hR
        have hN := hN.ofGr gw9
        replace hB12 := hB12.gr gw9
        refine wl1 H61 (r_not rfl) rfl rfl rfl rfl fun a50 H62 => ?_
        clear H61 a49
        replace H62 := H62.known (t := 59) (b := false) rfl (by simp)
        refine wl1 H62 (r_move rfl) rfl rfl rfl rfl fun a51 H63 => ?_
        clear H62 a50
        refine wl_on (d := 60) H63 rfl rfl rfl ?_
        refine wl1 H63 (r_move rfl) rfl rfl rfl rfl fun a52 H64 => ?_
        clear H63 a51
        refine wl_on (d := 60) H64 rfl rfl rfl ?_
        refine wlc  H64 rfl rfl hb14 rfl (lput (l := pl) (R := none) (cr := 0) (rec := []) hN.sat hP (by omega) (by omega) (Els.nil _ _ _) (Nat.le_refl _)) fun v w10 hR a53 H65 => ?_
        clear H64 a52
        obtain ⟨J10, nw10, ⟨A5, c5, rfl, hc5, hE5⟩⟩ := hR
        replace hA := hA.up nw10.le
        replace hE1 := hE1.up nw10.le
        replace hE2 := hE2.up nw10.le
        replace hE3 := hE3.up nw10.le
        replace hE4 := hE4.up nw10.le
        replace hB12 := hB12.next nw10
        have hN := hN.trans nw10
        replace hP := hP.up nw10.le
        have hpe : putErr pl [] = if lo < n0 then 60 else 0 := by unfold putErr; rw [hjl0, hln, if_neg (by simp)]; split; rfl; rw [if_neg (by simp; omega)]
        rw [hpe] at H65
        refine wl_on (d := 60) H65 rfl rfl rfl ?_
        refine wl1 H65 (r_fieldv 1 rfl rfl (by kernel_rfl)) rfl rfl rfl rfl fun a54 H66 => ?_
        clear H65 a53
        refine wl_on (d := 60) H66 rfl rfl rfl ?_
        refine wl1 H66 (r_eql rfl rfl) rfl rfl rfl rfl fun a55 H67 => ?_
        clear H66 a54
        refine wl_on (d := 60) H67 rfl rfl rfl ?_
        refine wl1 H67 (r_move rfl) rfl rfl rfl rfl fun a56 H68 => ?_
        clear H67 a55
        refine wl_on (d := 60) H68 rfl rfl rfl ?_
        refine wl1 H68 (r_move rfl) rfl rfl rfl rfl fun a57 H69 => ?_
        clear H68 a56
        refine wl_on (d := 60) H69 rfl rfl rfl ?_
        refine wl1 H69 (r_eql rfl rfl) rfl rfl rfl rfl fun a58 H70 => ?_
        clear H69 a57
        refine wl_on (d := 60) H70 rfl rfl rfl ?_
        refine wl1 H70 (r_neb Try.underlying4 rfl rfl) rfl rfl rfl rfl fun a59 H71 => ?_
        clear H70 a58
        replace H71 := H71.known (t := 68) (b := false) rfl (by by_cases h : lo < n0 <;> simp [h] <;> omega)
        refine wl1 H71 (r_pick_f rfl rfl) rfl rfl rfl rfl fun a60 H72 => ?_
        clear H71 a59
        refine wl_end ?_
        refine th_n ?_
        refine w_ff H72 rfl rfl ?_
        refine wpIn_skip ?_
        refine th_n ?_
        refine wpIn_seq ?_
        have hS0 := hN.sat
        have hNsz16 := hN.gr.size
        refine w_drawE (m := 42) (l0 := [(0, _), (4, _), (5, _), (6, _), (8, _), (9, _), (10, _), (11, _), (12, _)]) hfol H72 ⟨rfl, rfl, rfl, rfl, rfl, rfl, rfl, rfl, rfl, trivial⟩ (by kernel_rfl) ?_
        refine ⟨_, false, (fun σ ι w1 hg hd hon => by
            exact OpOK.sub (r := [(0, _), (4, _), (5, _), (6, _), (8, _), (9, _), (10, _), (11, _), (12, _)]) ⟨rfl, rfl, rfl, rfl, rfl, rfl, rfl, rfl, rfl, trivial⟩ (by
              exact OpOK.eq (r_fld fld34_2 rfl))
            ), (fun _ _ _ _ _ _ h => h), (FreeR.no _), ?_⟩
        refine ⟨_, false, (fun σ ι w1 hg hd hon => by
            have hN := hN.ofGr ((Gr.refl _).drew.trans hg)
            have hB12 := hB12.gr ((Gr.refl _).drew.trans hg)
            have f0 := hd 0 (by decide) _ rfl
            have e0 : σ 0 = _ := f0.1 trivial
            exact OpOK.sub (r := [(70, _), (0, _), (4, _), (5, _), (6, _), (8, _), (9, _), (10, _), (11, _), (12, _)]) ⟨congrArg some e0, rfl, rfl, rfl, rfl, rfl, rfl, rfl, rfl, rfl, trivial⟩ (by
              exact OpOK.eq (r_load sc31 rfl (hB12.cell rfl)))
            ), (fun _ _ _ _ _ _ h => h), (FreeR.no _), ?_⟩
        refine ⟨_, false, (fun σ ι w1 hg hd hon => by
            have f1 := hd 1 (by decide) _ rfl
            have e1 : σ 1 = _ := f1.1 trivial
            exact OpOK.sub (r := [(71, _), (0, _), (4, _), (5, _), (6, _), (8, _), (9, _), (10, _), (11, _), (12, _)]) ⟨congrArg some e1, rfl, rfl, rfl, rfl, rfl, rfl, rfl, rfl, rfl, trivial⟩ (by
              exact OpOK.eq (r_eql rfl rfl))
            ), (fun _ _ _ _ _ _ h => h), (FreeR.no _), ?_⟩
        refine ⟨_, false, (fun σ ι w1 hg hd hon => by
            exact OpOK.sub (r := [(0, _), (4, _), (5, _), (6, _), (8, _), (9, _), (10, _), (11, _), (12, _)]) ⟨rfl, rfl, rfl, rfl, rfl, rfl, rfl, rfl, rfl, trivial⟩ (by
              exact OpOK.eq (r_move rfl))
            ), (fun _ _ _ _ _ _ h => h), (FreeR.no _), ?_⟩
        refine ⟨_, false, (fun σ ι w1 hg hd hon => by
            exact OpOK.sub (r := [(0, _), (4, _), (5, _), (6, _), (8, _), (9, _), (10, _), (11, _), (12, _)]) ⟨rfl, rfl, rfl, rfl, rfl, rfl, rfl, rfl, rfl, trivial⟩ (by
              exact OpOK.eq (r_move rfl))
            ), (fun _ _ _ _ _ _ h => h), (FreeR.no _), ?_⟩
        refine ⟨_, false, (fun σ ι w1 hg hd hon => by
            have f3 := hd 3 (by decide) _ rfl
            have f4 := hd 4 (by decide) _ rfl
            have e3 : σ 3 = _ := f3.1 trivial
            have e4 : σ 4 = _ := f4.1 trivial
            exact OpOK.sub (r := [(73, _), (74, _), (0, _), (4, _), (5, _), (6, _), (8, _), (9, _), (10, _), (11, _), (12, _)]) ⟨congrArg some e3, congrArg some e4, rfl, rfl, rfl, rfl, rfl, rfl, rfl, rfl, rfl, trivial⟩ (by
              exact OpOK.eq (r_eql rfl rfl))
            ), (fun _ _ _ _ _ _ h => h), (FreeR.no _), ?_⟩
        refine ⟨_, false, (fun σ ι w1 hg hd hon => by
            have f2 := hd 2 (by decide) _ rfl
            have f5 := hd 5 (by decide) _ rfl
            have e2 : σ 2 = _ := f2.1 trivial
            have e5 : σ 5 = _ := f5.1 trivial
            exact OpOK.sub (r := [(72, _), (75, _), (0, _), (4, _), (5, _), (6, _), (8, _), (9, _), (10, _), (11, _), (12, _)]) ⟨congrArg some e2, congrArg some e5, rfl, rfl, rfl, rfl, rfl, rfl, rfl, rfl, rfl, trivial⟩ (by
              exact OpOK.eq (r_eqb Try.underlying4 rfl rfl))
            ), (fun _ _ _ _ _ _ h => h), (FreeR.no _), ?_⟩
        refine ⟨_, false, (fun σ ι w1 hg hd hon => by
            have f6 := hd 6 (by decide) _ rfl
            have e6 : σ 6 = _ := f6.1 trivial
            exact OpOK.sub (r := [(76, _), (0, _), (4, _), (5, _), (6, _), (8, _), (9, _), (10, _), (11, _), (12, _)]) ⟨congrArg some e6, rfl, rfl, rfl, rfl, rfl, rfl, rfl, rfl, rfl, trivial⟩ (by
              exact OpOK.eq (r_move rfl))
            ), (fun _ _ _ _ _ _ h => h), (FreeR.no _), ?_⟩
        refine ⟨_, false, (fun σ ι w1 hg hd hon => by
            have f7 := hd 7 (by decide) _ rfl
            have e7 : σ 7 = _ := f7.1 trivial
            have hgd : σ 7 = .bool true := hon
            have hgb := (f7.1 trivial : σ 7 = _).symm.trans hgd
            simp only [Value.bool.injEq] at hgb
            try simp only [decide_eq_true_eq, decide_eq_false_iff_not, Bool.or_eq_true, Bool.and_eq_true, Bool.or_eq_false_iff, Bool.and_eq_false_iff, Bool.not_eq_true', Bool.not_eq_false', Int.not_lt, Int.not_le, ne_eq, Decidable.not_not] at hgb
            exact OpOK.sub (r := [(0, _), (4, _), (5, _), (6, _), (8, _), (9, _), (10, _), (11, _), (12, _)]) ⟨rfl, rfl, rfl, rfl, rfl, rfl, rfl, rfl, rfl, trivial⟩ (by
              exact OpOK.eq (r_fld fld34_2 rfl))
            ), (fun _ _ _ _ _ _ h => h), (FreeR.no _), ?_⟩
        refine ⟨_, false, (fun σ ι w1 hg hd hon => by
            have hN := hN.ofGr ((Gr.refl _).drew.trans hg)
            have hB12 := hB12.gr ((Gr.refl _).drew.trans hg)
            have f8 := hd 8 (by decide) _ rfl
            have f7 := hd 7 (by decide) _ rfl
            have e8 : σ 8 = _ := f8.1 hon
            have e7 : σ 7 = _ := f7.1 trivial
            have hgd : σ 7 = .bool true := hon
            have hgb := (f7.1 trivial : σ 7 = _).symm.trans hgd
            simp only [Value.bool.injEq] at hgb
            try simp only [decide_eq_true_eq, decide_eq_false_iff_not, Bool.or_eq_true, Bool.and_eq_true, Bool.or_eq_false_iff, Bool.and_eq_false_iff, Bool.not_eq_true', Bool.not_eq_false', Int.not_lt, Int.not_le, ne_eq, Decidable.not_not] at hgb
            exact OpOK.sub (r := [(78, _), (0, _), (4, _), (5, _), (6, _), (8, _), (9, _), (10, _), (11, _), (12, _)]) ⟨congrArg some e8, rfl, rfl, rfl, rfl, rfl, rfl, rfl, rfl, rfl, trivial⟩ (by
              exact OpOK.eq (r_load sc31 rfl (hB12.cell rfl)))
            ), (fun _ _ _ _ _ _ h => h), (FreeR.no _), ?_⟩
        refine ⟨_, false, (fun σ ι w1 hg hd hon => by
            have f9 := hd 9 (by decide) _ rfl
            have f7 := hd 7 (by decide) _ rfl
            have e9 : σ 9 = _ := f9.1 hon
            have e7 : σ 7 = _ := f7.1 trivial
            have hgd : σ 7 = .bool true := hon
            have hgb := (f7.1 trivial : σ 7 = _).symm.trans hgd
            simp only [Value.bool.injEq] at hgb
            try simp only [decide_eq_true_eq, decide_eq_false_iff_not, Bool.or_eq_true, Bool.and_eq_true, Bool.or_eq_false_iff, Bool.and_eq_false_iff, Bool.not_eq_true', Bool.not_eq_false', Int.not_lt, Int.not_le, ne_eq, Decidable.not_not] at hgb
            exact OpOK.sub (r := [(79, _), (0, _), (4, _), (5, _), (6, _), (8, _), (9, _), (10, _), (11, _), (12, _)]) ⟨congrArg some e9, rfl, rfl, rfl, rfl, rfl, rfl, rfl, rfl, rfl, trivial⟩ (by
              exact OpOK.eq (r_eql rfl rfl))
            ), (fun _ _ _ _ _ _ h => h), (FreeR.no _), ?_⟩
        refine ⟨_, false, (fun σ ι w1 hg hd hon => by
            have f10 := hd 10 (by decide) _ rfl
            have f7 := hd 7 (by decide) _ rfl
            have e10 : σ 10 = _ := f10.1 hon
            have e7 : σ 7 = _ := f7.1 trivial
            have hgd : σ 7 = .bool true := hon
            have hgb := (f7.1 trivial : σ 7 = _).symm.trans hgd
            simp only [Value.bool.injEq] at hgb
            try simp only [decide_eq_true_eq, decide_eq_false_iff_not, Bool.or_eq_true, Bool.and_eq_true, Bool.or_eq_false_iff, Bool.and_eq_false_iff, Bool.not_eq_true', Bool.not_eq_false', Int.not_lt, Int.not_le, ne_eq, Decidable.not_not] at hgb
            exact OpOK.sub (r := [(80, _), (0, _), (4, _), (5, _), (6, _), (8, _), (9, _), (10, _), (11, _), (12, _)]) ⟨congrArg some e10, rfl, rfl, rfl, rfl, rfl, rfl, rfl, rfl, rfl, trivial⟩ (by
              exact OpOK.eq (r_move rfl))
            ), (fun _ _ _ _ _ _ h => h), (FreeR.no _), ?_⟩
        refine ⟨_, false, (fun σ ι w1 hg hd hon => by
            have f11 := hd 11 (by decide) _ rfl
            have hgd : σ 11 = .bool false := hon
            exact OpOK.sub (r := [(0, _), (4, _), (5, _), (6, _), (8, _), (9, _), (10, _), (11, _), (12, _)]) ⟨rfl, rfl, rfl, rfl, rfl, rfl, rfl, rfl, rfl, trivial⟩ (by
              exact OpOK.eq (r_fld fld34_2 rfl))
            ), (fun _ _ _ _ _ _ h => h), (FreeR.no _), ?_⟩
        refine ⟨_, false, (fun σ ι w1 hg hd hon => by
            have hN := hN.ofGr ((Gr.refl _).drew.trans hg)
            have hB12 := hB12.gr ((Gr.refl _).drew.trans hg)
            have f12 := hd 12 (by decide) _ rfl
            have f11 := hd 11 (by decide) _ rfl
            have e12 : σ 12 = _ := f12.1 hon
            have hgd : σ 11 = .bool false := hon
            exact OpOK.sub (r := [(82, _), (0, _), (4, _), (5, _), (6, _), (8, _), (9, _), (10, _), (11, _), (12, _)]) ⟨congrArg some e12, rfl, rfl, rfl, rfl, rfl, rfl, rfl, rfl, rfl, trivial⟩ (by
              exact OpOK.eq (r_load sc31 rfl (hB12.cell rfl)))
            ), (fun _ _ _ _ _ _ h => h), (FreeR.no _), ?_⟩
        refine ⟨_, false, (fun σ ι w1 hg hd hon => by
            have f13 := hd 13 (by decide) _ rfl
            have f11 := hd 11 (by decide) _ rfl
            have e13 : σ 13 = _ := f13.1 hon
            have hgd : σ 11 = .bool false := hon
            exact OpOK.sub (r := [(83, _), (0, _), (4, _), (5, _), (6, _), (8, _), (9, _), (10, _), (11, _), (12, _)]) ⟨congrArg some e13, rfl, rfl, rfl, rfl, rfl, rfl, rfl, rfl, rfl, trivial⟩ (by
              exact OpOK.eq (r_eql rfl rfl))
            ), (fun _ _ _ _ _ _ h => h), (FreeR.no _), ?_⟩
        refine ⟨_, false, (fun σ ι w1 hg hd hon => by
            have f11 := hd 11 (by decide) _ rfl
            have f14 := hd 14 (by decide) _ rfl
            have f7 := hd 7 (by decide) _ rfl
            have e11 : σ 11 = _ := f11.1 hon
            have e7 : σ 7 = _ := f7.1 trivial
            have hgd : σ 7 = .bool true := hon
            have hgb := (f7.1 trivial : σ 7 = _).symm.trans hgd
            simp only [Value.bool.injEq] at hgb
            try simp only [decide_eq_true_eq, decide_eq_false_iff_not, Bool.or_eq_true, Bool.and_eq_true, Bool.or_eq_false_iff, Bool.and_eq_false_iff, Bool.not_eq_true', Bool.not_eq_false', Int.not_lt, Int.not_le, ne_eq, Decidable.not_not] at hgb
            have ec : σ 11 = _ := f11.1 hon
            exact OpOK.id (by refine OpOK.or (dc := 81) (dy := 84) (kc := σ 11) (ky := σ 14) ?_ ?_ ec (fun hb => f14.1 (by show σ 11 = _; rw [ec]; exact congrArg Value.bool hb)) <;> rfl)
            ), (fun _ _ _ _ _ _ h => h), (FreeR.no _), ?_⟩
        refine ⟨_, false, (fun σ ι w1 hg hd hon => by
            have f7 := hd 7 (by decide) _ rfl
            have f15 := hd 15 (by decide) _ rfl
            have e7 : σ 7 = _ := f7.1 trivial
            have ec : σ 7 = _ := f7.1 trivial
            exact OpOK.id (by refine OpOK.and (dc := 77) (dy := 85) (kc := σ 7) (ky := σ 15) ?_ ?_ ec (fun hb => f15.1 (by show σ 7 = _; rw [ec]; exact congrArg Value.bool hb)) <;> rfl)
            ), (fun _ _ _ _ _ _ h => h), (FreeR.no _), ?_⟩
        refine ⟨_, false, (fun σ ι w1 hg hd hon => by
            have f16 := hd 16 (by decide) _ rfl
            have e16 : σ 16 = _ := f16.1 trivial
            exact OpOK.sub (r := [(86, _), (0, _), (4, _), (5, _), (6, _), (8, _), (9, _), (10, _), (11, _), (12, _)]) ⟨congrArg some e16, rfl, rfl, rfl, rfl, rfl, rfl, rfl, rfl, rfl, trivial⟩ (by
              exact OpOK.eq (r_move rfl))
            ), (fun _ _ _ _ _ _ h => h), (FreeR.no _), ?_⟩
        refine ⟨_, false, (fun σ ι w1 hg hd hon => by
            have f17 := hd 17 (by decide) _ rfl
            have e17 : σ 17 = _ := f17.1 trivial
            have hgd : σ 17 = .bool true := hon
            have hgb := (f17.1 trivial : σ 17 = _).symm.trans hgd
            simp only [Value.bool.injEq] at hgb
            try simp only [decide_eq_true_eq, decide_eq_false_iff_not, Bool.or_eq_true, Bool.and_eq_true, Bool.or_eq_false_iff, Bool.and_eq_false_iff, Bool.not_eq_true', Bool.not_eq_false', Int.not_lt, Int.not_le, ne_eq, Decidable.not_not] at hgb
            exact OpOK.sub (r := [(0, _), (4, _), (5, _), (6, _), (8, _), (9, _), (10, _), (11, _), (12, _)]) ⟨rfl, rfl, rfl, rfl, rfl, rfl, rfl, rfl, rfl, trivial⟩ (by
              exact OpOK.eq (r_fld fld34_0 rfl))
            ), (fun _ _ _ _ _ _ h => h), (FreeR.no _), ?_⟩
        refine ⟨_, false, (fun σ ι w1 hg hd hon => by
            have hN := hN.ofGr ((Gr.refl _).drew.trans hg)
            have hB12 := hB12.gr ((Gr.refl _).drew.trans hg)
            have f18 := hd 18 (by decide) _ rfl
            have f17 := hd 17 (by decide) _ rfl
            have e18 : σ 18 = _ := f18.1 hon
            have e17 : σ 17 = _ := f17.1 trivial
            have hgd : σ 17 = .bool true := hon
            have hgb := (f17.1 trivial : σ 17 = _).symm.trans hgd
            simp only [Value.bool.injEq] at hgb
            try simp only [decide_eq_true_eq, decide_eq_false_iff_not, Bool.or_eq_true, Bool.and_eq_true, Bool.or_eq_false_iff, Bool.and_eq_false_iff, Bool.not_eq_true', Bool.not_eq_false', Int.not_lt, Int.not_le, ne_eq, Decidable.not_not] at hgb
            exact OpOK.sub (r := [(88, _), (0, _), (4, _), (5, _), (6, _), (8, _), (9, _), (10, _), (11, _), (12, _)]) ⟨congrArg some e18, rfl, rfl, rfl, rfl, rfl, rfl, rfl, rfl, rfl, trivial⟩ (by
              exact OpOK.eq (r_load sc23 rfl (hB12.cell rfl)))
            ), (fun _ _ _ _ _ _ h => h), (FreeR.no _), ?_⟩
        refine ⟨_, false, (fun σ ι w1 hg hd hon => by
            have f17 := hd 17 (by decide) _ rfl
            have e17 : σ 17 = _ := f17.1 trivial
            have hgd : σ 17 = .bool true := hon
            have hgb := (f17.1 trivial : σ 17 = _).symm.trans hgd
            simp only [Value.bool.injEq] at hgb
            try simp only [decide_eq_true_eq, decide_eq_false_iff_not, Bool.or_eq_true, Bool.and_eq_true, Bool.or_eq_false_iff, Bool.and_eq_false_iff, Bool.not_eq_true', Bool.not_eq_false', Int.not_lt, Int.not_le, ne_eq, Decidable.not_not] at hgb
            exact OpOK.sub (r := [(0, _), (4, _), (5, _), (6, _), (8, _), (9, _), (10, _), (11, _), (12, _)]) ⟨rfl, rfl, rfl, rfl, rfl, rfl, rfl, rfl, rfl, trivial⟩ (by
              exact OpOK.eq (r_move rfl))
            ), (fun _ _ _ _ _ _ h => h), (FreeR.no _), ?_⟩
        refine ⟨_, false, (fun σ ι w1 hg hd hon => by
            have f17 := hd 17 (by decide) _ rfl
            have e17 : σ 17 = _ := f17.1 trivial
            have hgd : σ 17 = .bool true := hon
            have hgb := (f17.1 trivial : σ 17 = _).symm.trans hgd
            simp only [Value.bool.injEq] at hgb
            try simp only [decide_eq_true_eq, decide_eq_false_iff_not, Bool.or_eq_true, Bool.and_eq_true, Bool.or_eq_false_iff, Bool.and_eq_false_iff, Bool.not_eq_true', Bool.not_eq_false', Int.not_lt, Int.not_le, ne_eq, Decidable.not_not] at hgb
            exact OpOK.sub (r := [(0, _), (4, _), (5, _), (6, _), (8, _), (9, _), (10, _), (11, _), (12, _)]) ⟨rfl, rfl, rfl, rfl, rfl, rfl, rfl, rfl, rfl, trivial⟩ (by
              exact OpOK.eq (r_move rfl))
            ), (fun _ _ _ _ _ _ h => h), (FreeR.no _), ?_⟩
        refine ⟨_, false, (fun σ ι w1 hg hd hon => by
            have f20 := hd 20 (by decide) _ rfl
            have f21 := hd 21 (by decide) _ rfl
            have f17 := hd 17 (by decide) _ rfl
            have e20 : σ 20 = _ := f20.1 hon
            have e21 : σ 21 = _ := f21.1 hon
            have e17 : σ 17 = _ := f17.1 trivial
            have hgd : σ 17 = .bool true := hon
            have hgb := (f17.1 trivial : σ 17 = _).symm.trans hgd
            simp only [Value.bool.injEq] at hgb
            try simp only [decide_eq_true_eq, decide_eq_false_iff_not, Bool.or_eq_true, Bool.and_eq_true, Bool.or_eq_false_iff, Bool.and_eq_false_iff, Bool.not_eq_true', Bool.not_eq_false', Int.not_lt, Int.not_le, ne_eq, Decidable.not_not] at hgb
            exact OpOK.sub (r := [(90, _), (91, _), (0, _), (4, _), (5, _), (6, _), (8, _), (9, _), (10, _), (11, _), (12, _)]) ⟨congrArg some e20, congrArg some e21, rfl, rfl, rfl, rfl, rfl, rfl, rfl, rfl, rfl, trivial⟩ (by
              exact OpOK.eq (r_upto (hi := k) Try.underlying23 sz29 rfl rfl rfl (by omega)))
            ), (fun _ _ _ _ _ _ h => h), (FreeR.no _), ?_⟩
        refine ⟨_, true, (fun σ ι w1 hg hd hon => by
            have hN := hN.ofGr ((Gr.refl _).drew.trans hg)
            have hB12 := hB12.gr ((Gr.refl _).drew.trans hg)
            have f19 := hd 19 (by decide) _ rfl
            have f22 := hd 22 (by decide) _ rfl
            have f17 := hd 17 (by decide) _ rfl
            have e19 : σ 19 = _ := f19.1 hon
            have e22 : σ 22 = _ := f22.1 hon
            have e17 : σ 17 = _ := f17.1 trivial
            have hgd : σ 17 = .bool true := hon
            have hgb := (f17.1 trivial : σ 17 = _).symm.trans hgd
            simp only [Value.bool.injEq] at hgb
            try simp only [decide_eq_true_eq, decide_eq_false_iff_not, Bool.or_eq_true, Bool.and_eq_true, Bool.or_eq_false_iff, Bool.and_eq_false_iff, Bool.not_eq_true', Bool.not_eq_false', Int.not_lt, Int.not_le, ne_eq, Decidable.not_not] at hgb
            skip
            exact CallOK.sub (r := [(89, _), (92, _), (0, _), (4, _), (5, _), (6, _), (8, _), (9, _), (10, _), (11, _), (12, _)]) ⟨congrArg some e19, congrArg some e22, rfl, rfl, rfl, rfl, rfl, rfl, rfl, rfl, rfl, trivial⟩ (by
              exact CallOK.V (enters_of rfl rfl hb16) (rrecords' hN.sat hE3 (hA.take k) rfl hrk))
            ), (fun _ _ _ _ _ _ h => h), (fun _ _ _ _ _ _ h => h), ?_⟩
        refine ⟨_, false, (fun σ ι w1 hg hd hon => by
            have f17 := hd 17 (by decide) _ rfl
            have f23 := hd 23 (by decide) _ rfl
            have e17 : σ 17 = _ := f17.1 trivial
            have ec : σ 17 = _ := f17.1 trivial
            exact OpOK.id (by refine OpOK.and (dc := 87) (dy := 93) (kc := σ 17) (ky := σ 23) ?_ ?_ ec (fun hb => f23.1 (by show σ 17 = _; rw [ec]; exact congrArg Value.bool hb)) <;> rfl)
            ), (fun _ _ _ _ _ _ h => h), (FreeR.no _), ?_⟩
        refine ⟨_, false, (fun σ ι w1 hg hd hon => by
            have f24 := hd 24 (by decide) _ rfl
            have e24 : σ 24 = _ := f24.1 trivial
            exact OpOK.sub (r := [(94, _), (0, _), (4, _), (5, _), (6, _), (8, _), (9, _), (10, _), (11, _), (12, _)]) ⟨congrArg some e24, rfl, rfl, rfl, rfl, rfl, rfl, rfl, rfl, rfl, trivial⟩ (by
              exact OpOK.eq (r_move rfl))
            ), (fun _ _ _ _ _ _ h => h), (FreeR.no _), ?_⟩
        refine ⟨_, false, (fun σ ι w1 hg hd hon => by
            have f25 := hd 25 (by decide) _ rfl
            have e25 : σ 25 = _ := f25.1 trivial
            have hgd : σ 25 = .bool true := hon
            have hgb := (f25.1 trivial : σ 25 = _).symm.trans hgd
            simp only [Value.bool.injEq] at hgb
            try simp only [decide_eq_true_eq, decide_eq_false_iff_not, Bool.or_eq_true, Bool.and_eq_true, Bool.or_eq_false_iff, Bool.and_eq_false_iff, Bool.not_eq_true', Bool.not_eq_false', Int.not_lt, Int.not_le, ne_eq, Decidable.not_not] at hgb
            exact OpOK.sub (r := [(0, _), (4, _), (5, _), (6, _), (8, _), (9, _), (10, _), (11, _), (12, _)]) ⟨rfl, rfl, rfl, rfl, rfl, rfl, rfl, rfl, rfl, trivial⟩ (by
              exact OpOK.eq (r_fld fld34_1 rfl))
            ), (fun _ _ _ _ _ _ h => h), (FreeR.no _), ?_⟩
        refine ⟨_, false, (fun σ ι w1 hg hd hon => by
            have hN := hN.ofGr ((Gr.refl _).drew.trans hg)
            have hB12 := hB12.gr ((Gr.refl _).drew.trans hg)
            have f26 := hd 26 (by decide) _ rfl
            have f25 := hd 25 (by decide) _ rfl
            have e26 : σ 26 = _ := f26.1 hon
            have e25 : σ 25 = _ := f25.1 trivial
            have hgd : σ 25 = .bool true := hon
            have hgb := (f25.1 trivial : σ 25 = _).symm.trans hgd
            simp only [Value.bool.injEq] at hgb
            try simp only [decide_eq_true_eq, decide_eq_false_iff_not, Bool.or_eq_true, Bool.and_eq_true, Bool.or_eq_false_iff, Bool.and_eq_false_iff, Bool.not_eq_true', Bool.not_eq_false', Int.not_lt, Int.not_le, ne_eq, Decidable.not_not] at hgb
            exact OpOK.sub (r := [(96, _), (0, _), (4, _), (5, _), (6, _), (8, _), (9, _), (10, _), (11, _), (12, _)]) ⟨congrArg some e26, rfl, rfl, rfl, rfl, rfl, rfl, rfl, rfl, rfl, trivial⟩ (by
              exact OpOK.eq (r_load sc22 rfl (hB12.cell rfl)))
            ), (fun _ _ _ _ _ _ h => h), (FreeR.no _), ?_⟩
        refine ⟨_, false, (fun σ ι w1 hg hd hon => by
            have f25 := hd 25 (by decide) _ rfl
            have e25 : σ 25 = _ := f25.1 trivial
            have hgd : σ 25 = .bool true := hon
            have hgb := (f25.1 trivial : σ 25 = _).symm.trans hgd
            simp only [Value.bool.injEq] at hgb
            try simp only [decide_eq_true_eq, decide_eq_false_iff_not, Bool.or_eq_true, Bool.and_eq_true, Bool.or_eq_false_iff, Bool.and_eq_false_iff, Bool.not_eq_true', Bool.not_eq_false', Int.not_lt, Int.not_le, ne_eq, Decidable.not_not] at hgb
            exact OpOK.sub (r := [(0, _), (4, _), (5, _), (6, _), (8, _), (9, _), (10, _), (11, _), (12, _)]) ⟨rfl, rfl, rfl, rfl, rfl, rfl, rfl, rfl, rfl, trivial⟩ (by
              exact OpOK.eq (r_move rfl))
            ), (fun _ _ _ _ _ _ h => h), (FreeR.no _), ?_⟩
        refine ⟨_, false, (fun σ ι w1 hg hd hon => by
            have f25 := hd 25 (by decide) _ rfl
            have e25 : σ 25 = _ := f25.1 trivial
            have hgd : σ 25 = .bool true := hon
            have hgb := (f25.1 trivial : σ 25 = _).symm.trans hgd
            simp only [Value.bool.injEq] at hgb
            try simp only [decide_eq_true_eq, decide_eq_false_iff_not, Bool.or_eq_true, Bool.and_eq_true, Bool.or_eq_false_iff, Bool.and_eq_false_iff, Bool.not_eq_true', Bool.not_eq_false', Int.not_lt, Int.not_le, ne_eq, Decidable.not_not] at hgb
            exact OpOK.sub (r := [(0, _), (4, _), (5, _), (6, _), (8, _), (9, _), (10, _), (11, _), (12, _)]) ⟨rfl, rfl, rfl, rfl, rfl, rfl, rfl, rfl, rfl, trivial⟩ (by
              exact OpOK.eq (r_move rfl))
            ), (fun _ _ _ _ _ _ h => h), (FreeR.no _), ?_⟩
        refine ⟨_, false, (fun σ ι w1 hg hd hon => by
            have f25 := hd 25 (by decide) _ rfl
            have e25 : σ 25 = _ := f25.1 trivial
            have hgd : σ 25 = .bool true := hon
            have hgb := (f25.1 trivial : σ 25 = _).symm.trans hgd
            simp only [Value.bool.injEq] at hgb
            try simp only [decide_eq_true_eq, decide_eq_false_iff_not, Bool.or_eq_true, Bool.and_eq_true, Bool.or_eq_false_iff, Bool.and_eq_false_iff, Bool.not_eq_true', Bool.not_eq_false', Int.not_lt, Int.not_le, ne_eq, Decidable.not_not] at hgb
            exact OpOK.sub (r := [(0, _), (4, _), (5, _), (6, _), (8, _), (9, _), (10, _), (11, _), (12, _)]) ⟨rfl, rfl, rfl, rfl, rfl, rfl, rfl, rfl, rfl, trivial⟩ (by
              exact OpOK.eq (r_move rfl))
            ), (fun _ _ _ _ _ _ h => h), (FreeR.no _), ?_⟩
        refine ⟨_, false, (fun σ ι w1 hg hd hon => by
            have f28 := hd 28 (by decide) _ rfl
            have f29 := hd 29 (by decide) _ rfl
            have f30 := hd 30 (by decide) _ rfl
            have f25 := hd 25 (by decide) _ rfl
            have e28 : σ 28 = _ := f28.1 hon
            have e29 : σ 29 = _ := f29.1 hon
            have e30 : σ 30 = _ := f30.1 hon
            have e25 : σ 25 = _ := f25.1 trivial
            have hgd : σ 25 = .bool true := hon
            have hgb := (f25.1 trivial : σ 25 = _).symm.trans hgd
            simp only [Value.bool.injEq] at hgb
            try simp only [decide_eq_true_eq, decide_eq_false_iff_not, Bool.or_eq_true, Bool.and_eq_true, Bool.or_eq_false_iff, Bool.and_eq_false_iff, Bool.not_eq_true', Bool.not_eq_false', Int.not_lt, Int.not_le, ne_eq, Decidable.not_not] at hgb
            exact OpOK.sub (r := [(98, _), (99, _), (100, _), (0, _), (4, _), (5, _), (6, _), (8, _), (9, _), (10, _), (11, _), (12, _)]) ⟨congrArg some e28, congrArg some e29, congrArg some e30, rfl, rfl, rfl, rfl, rfl, rfl, rfl, rfl, rfl, trivial⟩ (by
              exact OpOK.eq (r_part (lo := lo) (hi := n0) Try.underlying22 sz5 rfl rfl rfl rfl rfl (by omega) (by omega)))
            ), (fun _ _ _ _ _ _ h => h), (FreeR.no _), ?_⟩
        refine ⟨_, true, (fun σ ι w1 hg hd hon => by
            have hN := hN.ofGr ((Gr.refl _).drew.trans hg)
            have hB12 := hB12.gr ((Gr.refl _).drew.trans hg)
            have f27 := hd 27 (by decide) _ rfl
            have f31 := hd 31 (by decide) _ rfl
            have f25 := hd 25 (by decide) _ rfl
            have e27 : σ 27 = _ := f27.1 hon
            have e31 : σ 31 = _ := f31.1 hon
            have e25 : σ 25 = _ := f25.1 trivial
            have hgd : σ 25 = .bool true := hon
            have hgb := (f25.1 trivial : σ 25 = _).symm.trans hgd
            simp only [Value.bool.injEq] at hgb
            try simp only [decide_eq_true_eq, decide_eq_false_iff_not, Bool.or_eq_true, Bool.and_eq_true, Bool.or_eq_false_iff, Bool.and_eq_false_iff, Bool.not_eq_true', Bool.not_eq_false', Int.not_lt, Int.not_le, ne_eq, Decidable.not_not] at hgb
            skip
            exact CallOK.sub (r := [(97, _), (101, _), (0, _), (4, _), (5, _), (6, _), (8, _), (9, _), (10, _), (11, _), (12, _)]) ⟨congrArg some e27, congrArg some e31, rfl, rfl, rfl, rfl, rfl, rfl, rfl, rfl, rfl, trivial⟩ (by
              exact CallOK.V (enters_of rfl rfl hb17) (rsame8' hN.sat hE4 ((hE1.off hc1).take (n0 - lo)) (by simp) (by simp; omega)))
            ), (fun _ _ _ _ _ _ h => h), (fun _ _ _ _ _ _ h => h), ?_⟩
        refine ⟨_, false, (fun σ ι w1 hg hd hon => by
            have f25 := hd 25 (by decide) _ rfl
            have f32 := hd 32 (by decide) _ rfl
            have e25 : σ 25 = _ := f25.1 trivial
            have ec : σ 25 = _ := f25.1 trivial
            exact OpOK.id (by refine OpOK.and (dc := 95) (dy := 102) (kc := σ 25) (ky := σ 32) ?_ ?_ ec (fun hb => f32.1 (by show σ 25 = _; rw [ec]; exact congrArg Value.bool hb)) <;> rfl)
            ), (fun _ _ _ _ _ _ h => h), (FreeR.no _), ?_⟩
        refine ⟨_, false, (fun σ ι w1 hg hd hon => by
            have f33 := hd 33 (by decide) _ rfl
            have e33 : σ 33 = _ := f33.1 trivial
            exact OpOK.sub (r := [(103, _), (0, _), (4, _), (5, _), (6, _), (8, _), (9, _), (10, _), (11, _), (12, _)]) ⟨congrArg some e33, rfl, rfl, rfl, rfl, rfl, rfl, rfl, rfl, rfl, trivial⟩ (by
              exact OpOK.eq (r_move rfl))
            ), (fun _ _ _ _ _ _ h => h), (FreeR.no _), ?_⟩
        refine ⟨_, false, (fun σ ι w1 hg hd hon => by
            have f34 := hd 34 (by decide) _ rfl
            have e34 : σ 34 = _ := f34.1 trivial
            have hgd : σ 34 = .bool true := hon
            have hgb := (f34.1 trivial : σ 34 = _).symm.trans hgd
            simp only [Value.bool.injEq] at hgb
            try simp only [decide_eq_true_eq, decide_eq_false_iff_not, Bool.or_eq_true, Bool.and_eq_true, Bool.or_eq_false_iff, Bool.and_eq_false_iff, Bool.not_eq_true', Bool.not_eq_false', Int.not_lt, Int.not_le, ne_eq, Decidable.not_not] at hgb
            exact OpOK.sub (r := [(0, _), (4, _), (5, _), (6, _), (8, _), (9, _), (10, _), (11, _), (12, _)]) ⟨rfl, rfl, rfl, rfl, rfl, rfl, rfl, rfl, rfl, trivial⟩ (by
              exact OpOK.eq (r_move rfl))
            ), (fun _ _ _ _ _ _ h => h), (FreeR.no _), ?_⟩
        refine ⟨_, true, (fun σ ι w1 hg hd hon => by
            have hN := hN.ofGr ((Gr.refl _).drew.trans hg)
            have hB12 := hB12.gr ((Gr.refl _).drew.trans hg)
            have f35 := hd 35 (by decide) _ rfl
            have f34 := hd 34 (by decide) _ rfl
            have e35 : σ 35 = _ := f35.1 hon
            have e34 : σ 34 = _ := f34.1 trivial
            have hgd : σ 34 = .bool true := hon
            have hgb := (f34.1 trivial : σ 34 = _).symm.trans hgd
            simp only [Value.bool.injEq] at hgb
            try simp only [decide_eq_true_eq, decide_eq_false_iff_not, Bool.or_eq_true, Bool.and_eq_true, Bool.or_eq_false_iff, Bool.and_eq_false_iff, Bool.not_eq_true', Bool.not_eq_false', Int.not_lt, Int.not_le, ne_eq, Decidable.not_not] at hgb
            skip
            exact CallOK.sub (r := [(105, _), (0, _), (4, _), (5, _), (6, _), (8, _), (9, _), (10, _), (11, _), (12, _)]) ⟨congrArg some e35, rfl, rfl, rfl, rfl, rfl, rfl, rfl, rfl, rfl, trivial⟩ (by
              exact CallOK.V (enters_of rfl rfl hb18) (jwhole' hN.sat hP rfl (by omega) (by omega)))
            ), (fun _ _ _ _ _ _ h => h), (fun _ _ _ _ _ _ h => h), ?_⟩
        refine ⟨_, false, (fun σ ι w1 hg hd hon => by
            have f34 := hd 34 (by decide) _ rfl
            have e34 : σ 34 = _ := f34.1 trivial
            have hgd : σ 34 = .bool true := hon
            have hgb := (f34.1 trivial : σ 34 = _).symm.trans hgd
            simp only [Value.bool.injEq] at hgb
            try simp only [decide_eq_true_eq, decide_eq_false_iff_not, Bool.or_eq_true, Bool.and_eq_true, Bool.or_eq_false_iff, Bool.and_eq_false_iff, Bool.not_eq_true', Bool.not_eq_false', Int.not_lt, Int.not_le, ne_eq, Decidable.not_not] at hgb
            exact OpOK.sub (r := [(0, _), (4, _), (5, _), (6, _), (8, _), (9, _), (10, _), (11, _), (12, _)]) ⟨rfl, rfl, rfl, rfl, rfl, rfl, rfl, rfl, rfl, trivial⟩ (by
              exact OpOK.eq (r_move rfl))
            ), (fun _ _ _ _ _ _ h => h), (FreeR.no _), ?_⟩
        refine ⟨_, false, (fun σ ι w1 hg hd hon => by
            have f34 := hd 34 (by decide) _ rfl
            have e34 : σ 34 = _ := f34.1 trivial
            have hgd : σ 34 = .bool true := hon
            have hgb := (f34.1 trivial : σ 34 = _).symm.trans hgd
            simp only [Value.bool.injEq] at hgb
            try simp only [decide_eq_true_eq, decide_eq_false_iff_not, Bool.or_eq_true, Bool.and_eq_true, Bool.or_eq_false_iff, Bool.and_eq_false_iff, Bool.not_eq_true', Bool.not_eq_false', Int.not_lt, Int.not_le, ne_eq, Decidable.not_not] at hgb
            exact OpOK.sub (r := [(0, _), (4, _), (5, _), (6, _), (8, _), (9, _), (10, _), (11, _), (12, _)]) ⟨rfl, rfl, rfl, rfl, rfl, rfl, rfl, rfl, rfl, trivial⟩ (by
              exact OpOK.eq (r_move rfl))
            ), (fun _ _ _ _ _ _ h => h), (FreeR.no _), ?_⟩
        refine ⟨_, false, (fun σ ι w1 hg hd hon => by
            have f37 := hd 37 (by decide) _ rfl
            have f38 := hd 38 (by decide) _ rfl
            have f34 := hd 34 (by decide) _ rfl
            have e37 : σ 37 = _ := f37.1 hon
            have e38 : σ 38 = _ := f38.1 hon
            have e34 : σ 34 = _ := f34.1 trivial
            have hgd : σ 34 = .bool true := hon
            have hgb := (f34.1 trivial : σ 34 = _).symm.trans hgd
            simp only [Value.bool.injEq] at hgb
            try simp only [decide_eq_true_eq, decide_eq_false_iff_not, Bool.or_eq_true, Bool.and_eq_true, Bool.or_eq_false_iff, Bool.and_eq_false_iff, Bool.not_eq_true', Bool.not_eq_false', Int.not_lt, Int.not_le, ne_eq, Decidable.not_not] at hgb
            exact OpOK.sub (r := [(107, _), (108, _), (0, _), (4, _), (5, _), (6, _), (8, _), (9, _), (10, _), (11, _), (12, _)]) ⟨congrArg some e37, congrArg some e38, rfl, rfl, rfl, rfl, rfl, rfl, rfl, rfl, rfl, trivial⟩ (by
              exact OpOK.eq (r_upto (hi := lo) Try.underlying22 sz5 rfl rfl rfl (by omega)))
            ), (fun _ _ _ _ _ _ h => h), (FreeR.no _), ?_⟩
        refine ⟨_, true, (fun σ ι w1 hg hd hon => by
            have hN := hN.ofGr ((Gr.refl _).drew.trans hg)
            have hB12 := hB12.gr ((Gr.refl _).drew.trans hg)
            have f36 := hd 36 (by decide) _ rfl
            have f39 := hd 39 (by decide) _ rfl
            have f34 := hd 34 (by decide) _ rfl
            have e36 : σ 36 = _ := f36.1 hon
            have e39 : σ 39 = _ := f39.1 hon
            have e34 : σ 34 = _ := f34.1 trivial
            have hgd : σ 34 = .bool true := hon
            have hgb := (f34.1 trivial : σ 34 = _).symm.trans hgd
            simp only [Value.bool.injEq] at hgb
            try simp only [decide_eq_true_eq, decide_eq_false_iff_not, Bool.or_eq_true, Bool.and_eq_true, Bool.or_eq_false_iff, Bool.and_eq_false_iff, Bool.not_eq_true', Bool.not_eq_false', Int.not_lt, Int.not_le, ne_eq, Decidable.not_not] at hgb
            skip
            exact CallOK.sub (r := [(106, _), (109, _), (0, _), (4, _), (5, _), (6, _), (8, _), (9, _), (10, _), (11, _), (12, _)]) ⟨congrArg some e36, congrArg some e39, rfl, rfl, rfl, rfl, rfl, rfl, rfl, rfl, rfl, trivial⟩ (by
              exact CallOK.V (enters_of rfl rfl hb17) (rsame8' (l := pl.take lo) (m := jl.take lo) hN.sat (hP.take lo) (hE1.take lo) (by rw [hjl0]; simp; omega) (by simp; omega)))
            ), (fun _ _ _ _ _ _ h => h), (fun _ _ _ _ _ _ h => h), ?_⟩
        refine ⟨_, false, (fun σ ι w1 hg hd hon => by
            have f34 := hd 34 (by decide) _ rfl
            have f40 := hd 40 (by decide) _ rfl
            have e34 : σ 34 = _ := f34.1 trivial
            have ec : σ 34 = _ := f34.1 trivial
            exact OpOK.id (by refine OpOK.and (dc := 104) (dy := 110) (kc := σ 34) (ky := σ 40) ?_ ?_ ec (fun hb => f40.1 (by show σ 34 = _; rw [ec]; exact congrArg Value.bool hb)) <;> rfl)
            ), (fun _ _ _ _ _ _ h => h), (FreeR.no _), ?_⟩
        intro σ ι a61 w12 hgw12 H73 hd hap
        skip
        have hN0 := hN
        have hN := hN.ofGr ((Gr.refl _).drew.trans hgw12)
        replace hB12 := hB12.gr ((Gr.refl _).drew.trans hgw12)
        have e41 : σ 41 = _ := (hd 41 (by decide) _ rfl).1 trivial
        replace H73 := H73.sub (r := [(111, _), (0, _), (4, _), (5, _), (6, _), (8, _), (9, _), (10, _), (11, _), (12, _)]) ⟨congrArg some e41, rfl, rfl, rfl, rfl, rfl, rfl, rfl, rfl, rfl, trivial⟩
        clear hd
        replace H73 := H73.known (t := 111) (b := true) rfl (by rw [hln, hdt, hpt]; by_cases h : lo < n0 <;> simp [h] <;> omega)
        clear hap
        refine wl1 H73 (r_move rfl) rfl rfl rfl rfl fun a62 H74 => ?_
        clear H73 a61
        refine wl_on (d := 112) H74 rfl rfl rfl ?_
        refine wl1 H74 (r_move rfl) rfl rfl rfl rfl fun a63 H75 => ?_
        clear H74 a62
        refine wl1 H75 (r_pick_t rfl rfl) rfl rfl rfl rfl fun a64 H76 => ?_
        clear H75 a63
        refine wl1 H76 (r_assign rfl) rfl rfl rfl rfl fun a65 H77 => ?_
        clear H76 a64
        refine wl_end ?_
        refine th_n ?_
        refine wpIn_ret ?_
        refine fin_r H77 (res1 rfl H77 rfl) ?_
        exact ⟨rfl, hN.gr⟩
    ·
      clear H32
      try simp only [decide_eq_true_eq, decide_eq_false_iff_not, Bool.or_eq_true, Bool.and_eq_true, Bool.or_eq_false_iff, Bool.and_eq_false_iff, Bool.not_eq_true', Bool.not_eq_false', Int.not_lt, Int.not_le, ne_eq, Decidable.not_not] at hg9_4
      have hkx : k < rs.length → n0 < lenR (rs.take (k + 1)) := fun h => by rw [jends_length] at hg9_4; omega
      have hjl0 : jall (jl.take n0) 0 = ⟨rs.take k, lenR (rs.take k), lastK 0 (rs.take k)⟩ := by rw [hjl]; exact jall_part hgd hk hk1 hkx
      have hlk := lenR_take rs k
      have hln : (jl.take n0).length = n0 := by simp; omega
      obtain ⟨pl, hpl⟩ : ∃ p, p = jl.take n0 := ⟨_, rfl⟩
      rw [← hpl] at hjl0 hln
      obtain ⟨lo, hlo⟩ : ∃ q, q = lenR (rs.take k) := ⟨_, rfl⟩
      rw [← hlo] at hjl0 hk1 hlk H33
      have hdt : pl.drop lo = (jl.drop lo).take (n0 - lo) := by rw [hpl]; exact List.drop_take
      have hpt : pl.take lo = jl.take lo := by rw [hpl, List.take_take, Nat.min_eq_left (by omega)]
      have hrk : (rs.take k).length = k := by simp; omega
      refine wl_off (d := 35) H33 rfl rfl rfl rfl rfl rfl fun a31 H78 => ?_
      clear H33 a30
      refine wl_off (d := 35) H78 rfl rfl rfl rfl rfl rfl fun a32 H79 => ?_
      clear H78 a31
      refine wl_off (d := 35) H79 rfl rfl rfl rfl rfl rfl fun a33 H80 => ?_
      clear H79 a32
      refine wl_off (d := 35) H80 rfl rfl rfl rfl rfl rfl fun a34 H81 => ?_
      clear H80 a33
      refine wl_off (d := 35) H81 rfl rfl rfl rfl rfl rfl fun a35 H82 => ?_
      clear H81 a34
      refine wl_off (d := 35) H82 rfl rfl rfl rfl rfl rfl fun a36 H83 => ?_
      clear H82 a35
      refine wl1 H83 (r_pick_f rfl rfl) rfl rfl rfl rfl fun a37 H84 => ?_
      clear H83 a36
      refine wl_end ?_
      refine th_n ?_
      refine w_ff H84 rfl rfl ?_
      refine wpIn_exit ?_
      refine th_x ?_
      refine th_x ?_
      refine bl_hit ?_
      refine th_n ?_
      refine wpIn_seq ?_
      refine w_reg ?_
      refine wl1 H84 (r_move rfl) rfl rfl rfl rfl fun a38 H85 => ?_
      clear H84 a37
      refine wl1 H85 (r_move rfl) rfl rfl rfl rfl fun a39 H86 => ?_
      clear H85 a38
      refine wlc  H86 rfl rfl hb20 rfl (jcut hN.sat hc1) fun v w13 hR a40 H87 => ?_
      clear H86 a39
      obtain ⟨rfl, gw13⟩ := hR
      have hN := hN.ofGr gw13
      rw [show (min (max (n0 : Int) 0) (jl.length : Int)).toNat = pl.length by omega] at H87
      have hP : Els (kInt .u8) J3 A1 pl := by rw [hpl]; exact hE1.take n0
      refine wl1 H87 (r_assign rfl) rfl rfl rfl rfl fun a41 H88 => ?_
      clear H87 a40
      refine wl_end ?_
      refine th_n ?_
      refine wpIn_seq ?_
      refine w_reg ?_
      refine wl1 H88 (r_move rfl) rfl rfl rfl rfl fun a42 H89 => ?_
      clear H88 a41
      refine wlc  H89 rfl rfl hb12 rfl (lread (l := pl) hN.sat hP (by omega) (by omega)) fun v w14 hR a43 H90 => ?_
      clear H89 a42
      obtain ⟨J14, nw14, ⟨A3, c3, A4, c4, rfl, hc3, hE3, hc4, hE4⟩⟩ := hR
      replace hA := hA.up nw14.le
      replace hE1 := hE1.up nw14.le
      replace hE2 := hE2.up nw14.le
      have hN := hN.trans nw14
      replace hP := hP.up nw14.le
      simp only [hjl0] at H90 hE3 hE4 hc3 hc4
      refine s_alloc H90 zv34 rfl hN fun w15 b12 hN gw15 hB12 hgeb12 heb12 a44 H91 => ?_
      clear H90 a43
      replace hB12 : Box _ _ _ [.slice none 0 0, .slice none 0 0, .int .i64 0, .int .i64 0, .int .u64 0] 34 := hB12
      refine s_storeA (vs := [_, _, _, _, _]) H91 sz34 (by simp) (by simp [Value.oneCell']) rfl rfl hN hB12 (by simp) hgeb12 fun w16 hN hB12 ew16 H92 => ?_
      clear H91
      simp only [Nat.zero_add, Nat.add_zero, Nat.reduceAdd, Nat.reduceMul, List.set_cons_zero, List.set_cons_succ, spliceL] at hB12
      clear ew16
      refine wl_end ?_
      refine th_n ?_
      refine wpIn_seq ?_
      refine wpIn_seq ?_
      refine w_reg ?_
      refine wl1 H92 (r_move rfl) rfl rfl rfl rfl fun a45 H93 => ?_
      clear H92 a44
      refine wl1 H93 (r_move rfl) rfl rfl rfl rfl fun a46 H94 => ?_
      clear H93 a45
      refine wl1 H94 (r_move rfl) rfl rfl rfl rfl fun a47 H95 => ?_
      clear H94 a46
      refine wl1 H95 (r_upto (hi := pl.length) Try.underlying22 sz5 rfl rfl (by omega) (by omega)) rfl rfl rfl rfl fun a48 H96 => ?_
      clear H95 a47
      refine wlc  H96 rfl rfl hb17 rfl (rsame8 hN.sat hP hP) fun v w17 hR a49 H97 => ?_
      clear H96 a48
      obtain ⟨rfl, gw17⟩ := hR
      have hN := hN.ofGr gw17
      replace hB12 := hB12.gr gw17
      refine wl1 H97 (r_not rfl) rfl rfl rfl rfl fun a50 H98 => ?_
      clear H97 a49
      replace H98 := H98.known (t := 59) (b := false) rfl (by simp)
      refine wl1 H98 (r_move rfl) rfl rfl rfl rfl fun a51 H99 => ?_
      clear H98 a50
      refine wl_on (d := 60) H99 rfl rfl rfl ?_
      refine wl1 H99 (r_move rfl) rfl rfl rfl rfl fun a52 H100 => ?_
      clear H99 a51
      refine wl_on (d := 60) H100 rfl rfl rfl ?_
      refine wlc  H100 rfl rfl hb14 rfl (lput (l := pl) (R := none) (cr := 0) (rec := []) hN.sat hP (by omega) (by omega) (Els.nil _ _ _) (Nat.le_refl _)) fun v w18 hR a53 H101 => ?_
      clear H100 a52
      obtain ⟨J18, nw18, ⟨A5, c5, rfl, hc5, hE5⟩⟩ := hR
      replace hA := hA.up nw18.le
      replace hE1 := hE1.up nw18.le
      replace hE2 := hE2.up nw18.le
      replace hE3 := hE3.up nw18.le
      replace hE4 := hE4.up nw18.le
      replace hB12 := hB12.next nw18
      have hN := hN.trans nw18
      replace hP := hP.up nw18.le
      have hpe : putErr pl [] = if lo < n0 then 60 else 0 := by unfold putErr; rw [hjl0, hln, if_neg (by simp)]; split; rfl; rw [if_neg (by simp; omega)]
      rw [hpe] at H101
      refine wl_on (d := 60) H101 rfl rfl rfl ?_
      refine wl1 H101 (r_fieldv 1 rfl rfl (by kernel_rfl)) rfl rfl rfl rfl fun a54 H102 => ?_
      clear H101 a53
      refine wl_on (d := 60) H102 rfl rfl rfl ?_
      refine wl1 H102 (r_eql rfl rfl) rfl rfl rfl rfl fun a55 H103 => ?_
      clear H102 a54
      refine wl_on (d := 60) H103 rfl rfl rfl ?_
      refine wl1 H103 (r_move rfl) rfl rfl rfl rfl fun a56 H104 => ?_
      clear H103 a55
      refine wl_on (d := 60) H104 rfl rfl rfl ?_
      refine wl1 H104 (r_move rfl) rfl rfl rfl rfl fun a57 H105 => ?_
      clear H104 a56
      refine wl_on (d := 60) H105 rfl rfl rfl ?_
      refine wl1 H105 (r_eql rfl rfl) rfl rfl rfl rfl fun a58 H106 => ?_
      clear H105 a57
      refine wl_on (d := 60) H106 rfl rfl rfl ?_
      refine wl1 H106 (r_neb Try.underlying4 rfl rfl) rfl rfl rfl rfl fun a59 H107 => ?_
      clear H106 a58
      replace H107 := H107.known (t := 68) (b := false) rfl (by by_cases h : lo < n0 <;> simp [h] <;> omega)
      refine wl1 H107 (r_pick_f rfl rfl) rfl rfl rfl rfl fun a60 H108 => ?_
      clear H107 a59
      refine wl_end ?_
      refine th_n ?_
      refine w_ff H108 rfl rfl ?_
      refine wpIn_skip ?_
      refine th_n ?_
      refine wpIn_seq ?_
      have hS0 := hN.sat
      have hNsz16 := hN.gr.size
      refine w_drawE (m := 42) (l0 := [(0, _), (4, _), (5, _), (6, _), (8, _), (9, _), (10, _), (11, _), (12, _)]) hfol H108 ⟨rfl, rfl, rfl, rfl, rfl, rfl, rfl, rfl, rfl, trivial⟩ (by kernel_rfl) ?_
      refine ⟨_, false, (fun σ ι w1 hg hd hon => by
          exact OpOK.sub (r := [(0, _), (4, _), (5, _), (6, _), (8, _), (9, _), (10, _), (11, _), (12, _)]) ⟨rfl, rfl, rfl, rfl, rfl, rfl, rfl, rfl, rfl, trivial⟩ (by
            exact OpOK.eq (r_fld fld34_2 rfl))
          ), (fun _ _ _ _ _ _ h => h), (FreeR.no _), ?_⟩
      refine ⟨_, false, (fun σ ι w1 hg hd hon => by
          have hN := hN.ofGr ((Gr.refl _).drew.trans hg)
          have hB12 := hB12.gr ((Gr.refl _).drew.trans hg)
          have f0 := hd 0 (by decide) _ rfl
          have e0 : σ 0 = _ := f0.1 trivial
          exact OpOK.sub (r := [(70, _), (0, _), (4, _), (5, _), (6, _), (8, _), (9, _), (10, _), (11, _), (12, _)]) ⟨congrArg some e0, rfl, rfl, rfl, rfl, rfl, rfl, rfl, rfl, rfl, trivial⟩ (by
            exact OpOK.eq (r_load sc31 rfl (hB12.cell rfl)))
          ), (fun _ _ _ _ _ _ h => h), (FreeR.no _), ?_⟩
      refine ⟨_, false, (fun σ ι w1 hg hd hon => by
          have f1 := hd 1 (by decide) _ rfl
          have e1 : σ 1 = _ := f1.1 trivial
          exact OpOK.sub (r := [(71, _), (0, _), (4, _), (5, _), (6, _), (8, _), (9, _), (10, _), (11, _), (12, _)]) ⟨congrArg some e1, rfl, rfl, rfl, rfl, rfl, rfl, rfl, rfl, rfl, trivial⟩ (by
            exact OpOK.eq (r_eql rfl rfl))
          ), (fun _ _ _ _ _ _ h => h), (FreeR.no _), ?_⟩
      refine ⟨_, false, (fun σ ι w1 hg hd hon => by
          exact OpOK.sub (r := [(0, _), (4, _), (5, _), (6, _), (8, _), (9, _), (10, _), (11, _), (12, _)]) ⟨rfl, rfl, rfl, rfl, rfl, rfl, rfl, rfl, rfl, trivial⟩ (by
            exact OpOK.eq (r_move rfl))
          ), (fun _ _ _ _ _ _ h => h), (FreeR.no _), ?_⟩
      refine ⟨_, false, (fun σ ι w1 hg hd hon => by
          exact OpOK.sub (r := [(0, _), (4, _), (5, _), (6, _), (8, _), (9, _), (10, _), (11, _), (12, _)]) ⟨rfl, rfl, rfl, rfl, rfl, rfl, rfl, rfl, rfl, trivial⟩ (by
            exact OpOK.eq (r_move rfl))
          ), (fun _ _ _ _ _ _ h => h), (FreeR.no _), ?_⟩
      refine ⟨_, false, (fun σ ι w1 hg hd hon => by
          have f3 := hd 3 (by decide) _ rfl
          have f4 := hd 4 (by decide) _ rfl
          have e3 : σ 3 = _ := f3.1 trivial
          have e4 : σ 4 = _ := f4.1 trivial
          exact OpOK.sub (r := [(73, _), (74, _), (0, _), (4, _), (5, _), (6, _), (8, _), (9, _), (10, _), (11, _), (12, _)]) ⟨congrArg some e3, congrArg some e4, rfl, rfl, rfl, rfl, rfl, rfl, rfl, rfl, rfl, trivial⟩ (by
            exact OpOK.eq (r_eql rfl rfl))
          ), (fun _ _ _ _ _ _ h => h), (FreeR.no _), ?_⟩
      refine ⟨_, false, (fun σ ι w1 hg hd hon => by
          have f2 := hd 2 (by decide) _ rfl
          have f5 := hd 5 (by decide) _ rfl
          have e2 : σ 2 = _ := f2.1 trivial
          have e5 : σ 5 = _ := f5.1 trivial
          exact OpOK.sub (r := [(72, _), (75, _), (0, _), (4, _), (5, _), (6, _), (8, _), (9, _), (10, _), (11, _), (12, _)]) ⟨congrArg some e2, congrArg some e5, rfl, rfl, rfl, rfl, rfl, rfl, rfl, rfl, rfl, trivial⟩ (by
            exact OpOK.eq (r_eqb Try.underlying4 rfl rfl))
          ), (fun _ _ _ _ _ _ h => h), (FreeR.no _), ?_⟩
      refine ⟨_, false, (fun σ ι w1 hg hd hon => by
          have f6 := hd 6 (by decide) _ rfl
          have e6 : σ 6 = _ := f6.1 trivial
          exact OpOK.sub (r := [(76, _), (0, _), (4, _), (5, _), (6, _), (8, _), (9, _), (10, _), (11, _), (12, _)]) ⟨congrArg some e6, rfl, rfl, rfl, rfl, rfl, rfl, rfl, rfl, rfl, trivial⟩ (by
            exact OpOK.eq (r_move rfl))
          ), (fun _ _ _ _ _ _ h => h), (FreeR.no _), ?_⟩
      refine ⟨_, false, (fun σ ι w1 hg hd hon => by
          have f7 := hd 7 (by decide) _ rfl
          have e7 : σ 7 = _ := f7.1 trivial
          have hgd : σ 7 = .bool true := hon
          have hgb := (f7.1 trivial : σ 7 = _).symm.trans hgd
          simp only [Value.bool.injEq] at hgb
          try simp only [decide_eq_true_eq, decide_eq_false_iff_not, Bool.or_eq_true, Bool.and_eq_true, Bool.or_eq_false_iff, Bool.and_eq_false_iff, Bool.not_eq_true', Bool.not_eq_false', Int.not_lt, Int.not_le, ne_eq, Decidable.not_not] at hgb
          exact OpOK.sub (r := [(0, _), (4, _), (5, _), (6, _), (8, _), (9, _), (10, _), (11, _), (12, _)]) ⟨rfl, rfl, rfl, rfl, rfl, rfl, rfl, rfl, rfl, trivial⟩ (by
            exact OpOK.eq (r_fld fld34_2 rfl))
          ), (fun _ _ _ _ _ _ h => h), (FreeR.no _), ?_⟩
      refine ⟨_, false, (fun σ ι w1 hg hd hon => by
          have hN := hN.ofGr ((Gr.refl _).drew.trans hg)
          have hB12 := hB12.gr ((Gr.refl _).drew.trans hg)
          have f8 := hd 8 (by decide) _ rfl
          have f7 := hd 7 (by decide) _ rfl
          have e8 : σ 8 = _ := f8.1 hon
          have e7 : σ 7 = _ := f7.1 trivial
          have hgd : σ 7 = .bool true := hon
          have hgb := (f7.1 trivial : σ 7 = _).symm.trans hgd
          simp only [Value.bool.injEq] at hgb
          try simp only [decide_eq_true_eq, decide_eq_false_iff_not, Bool.or_eq_true, Bool.and_eq_true, Bool.or_eq_false_iff, Bool.and_eq_false_iff, Bool.not_eq_true', Bool.not_eq_false', Int.not_lt, Int.not_le, ne_eq, Decidable.not_not] at hgb
          exact OpOK.sub (r := [(78, _), (0, _), (4, _), (5, _), (6, _), (8, _), (9, _), (10, _), (11, _), (12, _)]) ⟨congrArg some e8, rfl, rfl, rfl, rfl, rfl, rfl, rfl, rfl, rfl, trivial⟩ (by
            exact OpOK.eq (r_load sc31 rfl (hB12.cell rfl)))
          ), (fun _ _ _ _ _ _ h => h), (FreeR.no _), ?_⟩
      refine ⟨_, false, (fun σ ι w1 hg hd hon => by
          have f9 := hd 9 (by decide) _ rfl
          have f7 := hd 7 (by decide) _ rfl
          have e9 : σ 9 = _ := f9.1 hon
          have e7 : σ 7 = _ := f7.1 trivial
          have hgd : σ 7 = .bool true := hon
          have hgb := (f7.1 trivial : σ 7 = _).symm.trans hgd
          simp only [Value.bool.injEq] at hgb
          try simp only [decide_eq_true_eq, decide_eq_false_iff_not, Bool.or_eq_true, Bool.and_eq_true, Bool.or_eq_false_iff, Bool.and_eq_false_iff, Bool.not_eq_true', Bool.not_eq_false', Int.not_lt, Int.not_le, ne_eq, Decidable.not_not] at hgb
          exact OpOK.sub (r := [(79, _), (0, _), (4, _), (5, _), (6, _), (8, _), (9, _), (10, _), (11, _), (12, _)]) ⟨congrArg some e9, rfl, rfl, rfl, rfl, rfl, rfl, rfl, rfl, rfl, trivial⟩ (by
            exact OpOK.eq (r_eql rfl rfl))
          ), (fun _ _ _ _ _ _ h => h), (FreeR.no _), ?_⟩
      refine ⟨_, false, (fun σ ι w1 hg hd hon => by
          have f10 := hd 10 (by decide) _ rfl
          have f7 := hd 7 (by decide) _ rfl
          have e10 : σ 10 = _ := f10.1 hon
          have e7 : σ 7 = _ := f7.1 trivial
          have hgd : σ 7 = .bool true := hon
          have hgb := (f7.1 trivial : σ 7 = _).symm.trans hgd
          simp only [Value.bool.injEq] at hgb
          try simp only [decide_eq_true_eq, decide_eq_false_iff_not, Bool.or_eq_true, Bool.and_eq_true, Bool.or_eq_false_iff, Bool.and_eq_false_iff, Bool.not_eq_true', Bool.not_eq_false', Int.not_lt, Int.not_le, ne_eq, Decidable.not_not] at hgb
          exact OpOK.sub (r := [(80, _), (0, _), (4, _), (5, _), (6, _), (8, _), (9, _), (10, _), (11, _), (12, _)]) ⟨congrArg some e10, rfl, rfl, rfl, rfl, rfl, rfl, rfl, rfl, rfl, trivial⟩ (by
            exact OpOK.eq (r_move rfl))
          ), (fun _ _ _ _ _ _ h => h), (FreeR.no _), ?_⟩
      refine ⟨_, false, (fun σ ι w1 hg hd hon => by
          have f11 := hd 11 (by decide) _ rfl
          have hgd : σ 11 = .bool false := hon
          exact OpOK.sub (r := [(0, _), (4, _), (5, _), (6, _), (8, _), (9, _), (10, _), (11, _), (12, _)]) ⟨rfl, rfl, rfl, rfl, rfl, rfl, rfl, rfl, rfl, trivial⟩ (by
            exact OpOK.eq (r_fld fld34_2 rfl))
          ), (fun _ _ _ _ _ _ h => h), (FreeR.no _), ?_⟩
      refine ⟨_, false, (fun σ ι w1 hg hd hon => by
          have hN := hN.ofGr ((Gr.refl _).drew.trans hg)
          have hB12 := hB12.gr ((Gr.refl _).drew.trans hg)
          have f12 := hd 12 (by decide) _ rfl
          have f11 := hd 11 (by decide) _ rfl
          have e12 : σ 12 = _ := f12.1 hon
          have hgd : σ 11 = .bool false := hon
          exact OpOK.sub (r := [(82, _), (0, _), (4, _), (5, _), (6, _), (8, _), (9, _), (10, _), (11, _), (12, _)]) ⟨congrArg some e12, rfl, rfl, rfl, rfl, rfl, rfl, rfl, rfl, rfl, trivial⟩ (by
            exact OpOK.eq (r_load sc31 rfl (hB12.cell rfl)))
          ), (fun _ _ _ _ _ _ h => h), (FreeR.no _), ?_⟩
      refine ⟨_, false, (fun σ ι w1 hg hd hon => by
          have f13 := hd 13 (by decide) _ rfl
          have f11 := hd 11 (by decide) _ rfl
          have e13 : σ 13 = _ := f13.1 hon
          have hgd : σ 11 = .bool false := hon
          exact OpOK.sub (r := [(83, _), (0, _), (4, _), (5, _), (6, _), (8, _), (9, _), (10, _), (11, _), (12, _)]) ⟨congrArg some e13, rfl, rfl, rfl, rfl, rfl, rfl, rfl, rfl, rfl, trivial⟩ (by
            exact OpOK.eq (r_eql rfl rfl))
          ), (fun _ _ _ _ _ _ h => h), (FreeR.no _), ?_⟩
      refine ⟨_, false, (fun σ ι w1 hg hd hon => by
          have f11 := hd 11 (by decide) _ rfl
          have f14 := hd 14 (by decide) _ rfl
          have f7 := hd 7 (by decide) _ rfl
          have e11 : σ 11 = _ := f11.1 hon
          have e7 : σ 7 = _ := f7.1 trivial
          have hgd : σ 7 = .bool true := hon
          have hgb := (f7.1 trivial : σ 7 = _).symm.trans hgd
          simp only [Value.bool.injEq] at hgb
          try simp only [decide_eq_true_eq, decide_eq_false_iff_not, Bool.or_eq_true, Bool.and_eq_true, Bool.or_eq_false_iff, Bool.and_eq_false_iff, Bool.not_eq_true', Bool.not_eq_false', Int.not_lt, Int.not_le, ne_eq, Decidable.not_not] at hgb
          have ec : σ 11 = _ := f11.1 hon
          exact OpOK.id (by refine OpOK.or (dc := 81) (dy := 84) (kc := σ 11) (ky := σ 14) ?_ ?_ ec (fun hb => f14.1 (by show σ 11 = _; rw [ec]; exact congrArg Value.bool hb)) <;> rfl)
          ), (fun _ _ _ _ _ _ h => h), (FreeR.no _), ?_⟩
      refine ⟨_, false, (fun σ ι w1 hg hd hon => by
          have f7 := hd 7 (by decide) _ rfl
          have f15 := hd 15 (by decide) _ rfl
          have e7 : σ 7 = _ := f7.1 trivial
          have ec : σ 7 = _ := f7.1 trivial
          exact OpOK.id (by refine OpOK.and (dc := 77) (dy := 85) (kc := σ 7) (ky := σ 15) ?_ ?_ ec (fun hb => f15.1 (by show σ 7 = _; rw [ec]; exact congrArg Value.bool hb)) <;> rfl)
          ), (fun _ _ _ _ _ _ h => h), (FreeR.no _), ?_⟩
      refine ⟨_, false, (fun σ ι w1 hg hd hon => by
          have f16 := hd 16 (by decide) _ rfl
          have e16 : σ 16 = _ := f16.1 trivial
          exact OpOK.sub (r := [(86, _), (0, _), (4, _), (5, _), (6, _), (8, _), (9, _), (10, _), (11, _), (12, _)]) ⟨congrArg some e16, rfl, rfl, rfl, rfl, rfl, rfl, rfl, rfl, rfl, trivial⟩ (by
            exact OpOK.eq (r_move rfl))
          ), (fun _ _ _ _ _ _ h => h), (FreeR.no _), ?_⟩
      refine ⟨_, false, (fun σ ι w1 hg hd hon => by
          have f17 := hd 17 (by decide) _ rfl
          have e17 : σ 17 = _ := f17.1 trivial
          have hgd : σ 17 = .bool true := hon
          have hgb := (f17.1 trivial : σ 17 = _).symm.trans hgd
          simp only [Value.bool.injEq] at hgb
          try simp only [decide_eq_true_eq, decide_eq_false_iff_not, Bool.or_eq_true, Bool.and_eq_true, Bool.or_eq_false_iff, Bool.and_eq_false_iff, Bool.not_eq_true', Bool.not_eq_false', Int.not_lt, Int.not_le, ne_eq, Decidable.not_not] at hgb
          exact OpOK.sub (r := [(0, _), (4, _), (5, _), (6, _), (8, _), (9, _), (10, _), (11, _), (12, _)]) ⟨rfl, rfl, rfl, rfl, rfl, rfl, rfl, rfl, rfl, trivial⟩ (by
            exact OpOK.eq (r_fld fld34_0 rfl))
          ), (fun _ _ _ _ _ _ h => h), (FreeR.no _), ?_⟩
      refine ⟨_, false, (fun σ ι w1 hg hd hon => by
          have hN := hN.ofGr ((Gr.refl _).drew.trans hg)
          have hB12 := hB12.gr ((Gr.refl _).drew.trans hg)
          have f18 := hd 18 (by decide) _ rfl
          have f17 := hd 17 (by decide) _ rfl
          have e18 : σ 18 = _ := f18.1 hon
          have e17 : σ 17 = _ := f17.1 trivial
          have hgd : σ 17 = .bool true := hon
          have hgb := (f17.1 trivial : σ 17 = _).symm.trans hgd
          simp only [Value.bool.injEq] at hgb
          try simp only [decide_eq_true_eq, decide_eq_false_iff_not, Bool.or_eq_true, Bool.and_eq_true, Bool.or_eq_false_iff, Bool.and_eq_false_iff, Bool.not_eq_true', Bool.not_eq_false', Int.not_lt, Int.not_le, ne_eq, Decidable.not_not] at hgb
          exact OpOK.sub (r := [(88, _), (0, _), (4, _), (5, _), (6, _), (8, _), (9, _), (10, _), (11, _), (12, _)]) ⟨congrArg some e18, rfl, rfl, rfl, rfl, rfl, rfl, rfl, rfl, rfl, trivial⟩ (by
            exact OpOK.eq (r_load sc23 rfl (hB12.cell rfl)))
          ), (fun _ _ _ _ _ _ h => h), (FreeR.no _), ?_⟩
      refine ⟨_, false, (fun σ ι w1 hg hd hon => by
          have f17 := hd 17 (by decide) _ rfl
          have e17 : σ 17 = _ := f17.1 trivial
          have hgd : σ 17 = .bool true := hon
          have hgb := (f17.1 trivial : σ 17 = _).symm.trans hgd
          simp only [Value.bool.injEq] at hgb
          try simp only [decide_eq_true_eq, decide_eq_false_iff_not, Bool.or_eq_true, Bool.and_eq_true, Bool.or_eq_false_iff, Bool.and_eq_false_iff, Bool.not_eq_true', Bool.not_eq_false', Int.not_lt, Int.not_le, ne_eq, Decidable.not_not] at hgb
          exact OpOK.sub (r := [(0, _), (4, _), (5, _), (6, _), (8, _), (9, _), (10, _), (11, _), (12, _)]) ⟨rfl, rfl, rfl, rfl, rfl, rfl, rfl, rfl, rfl, trivial⟩ (by
            exact OpOK.eq (r_move rfl))
          ), (fun _ _ _ _ _ _ h => h), (FreeR.no _), ?_⟩
      refine ⟨_, false, (fun σ ι w1 hg hd hon => by
          have f17 := hd 17 (by decide) _ rfl
          have e17 : σ 17 = _ := f17.1 trivial
          have hgd : σ 17 = .bool true := hon
          have hgb := (f17.1 trivial : σ 17 = _).symm.trans hgd
          simp only [Value.bool.injEq] at hgb
          try simp only [decide_eq_true_eq, decide_eq_false_iff_not, Bool.or_eq_true, Bool.and_eq_true, Bool.or_eq_false_iff, Bool.and_eq_false_iff, Bool.not_eq_true', Bool.not_eq_false', Int.not_lt, Int.not_le, ne_eq, Decidable.not_not] at hgb
          exact OpOK.sub (r := [(0, _), (4, _), (5, _), (6, _), (8, _), (9, _), (10, _), (11, _), (12, _)]) ⟨rfl, rfl, rfl, rfl, rfl, rfl, rfl, rfl, rfl, trivial⟩ (by
            exact OpOK.eq (r_move rfl))
          ), (fun _ _ _ _ _ _ h => h), (FreeR.no _), ?_⟩
      refine ⟨_, false, (fun σ ι w1 hg hd hon => by
          have f20 := hd 20 (by decide) _ rfl
          have f21 := hd 21 (by decide) _ rfl
          have f17 := hd 17 (by decide) _ rfl
          have e20 : σ 20 = _ := f20.1 hon
          have e21 : σ 21 = _ := f21.1 hon
          have e17 : σ 17 = _ := f17.1 trivial
          have hgd : σ 17 = .bool true := hon
          have hgb := (f17.1 trivial : σ 17 = _).symm.trans hgd
          simp only [Value.bool.injEq] at hgb
          try simp only [decide_eq_true_eq, decide_eq_false_iff_not, Bool.or_eq_true, Bool.and_eq_true, Bool.or_eq_false_iff, Bool.and_eq_false_iff, Bool.not_eq_true', Bool.not_eq_false', Int.not_lt, Int.not_le, ne_eq, Decidable.not_not] at hgb
          exact OpOK.sub (r := [(90, _), (91, _), (0, _), (4, _), (5, _), (6, _), (8, _), (9, _), (10, _), (11, _), (12, _)]) ⟨congrArg some e20, congrArg some e21, rfl, rfl, rfl, rfl, rfl, rfl, rfl, rfl, rfl, trivial⟩ (by
            exact OpOK.eq (r_upto (hi := k) Try.underlying23 sz29 rfl rfl rfl (by omega)))
          ), (fun _ _ _ _ _ _ h => h), (FreeR.no _), ?_⟩
      refine ⟨_, true, (fun σ ι w1 hg hd hon => by
          have hN := hN.ofGr ((Gr.refl _).drew.trans hg)
          have hB12 := hB12.gr ((Gr.refl _).drew.trans hg)
          have f19 := hd 19 (by decide) _ rfl
          have f22 := hd 22 (by decide) _ rfl
          have f17 := hd 17 (by decide) _ rfl
          have e19 : σ 19 = _ := f19.1 hon
          have e22 : σ 22 = _ := f22.1 hon
          have e17 : σ 17 = _ := f17.1 trivial
          have hgd : σ 17 = .bool true := hon
          have hgb := (f17.1 trivial : σ 17 = _).symm.trans hgd
          simp only [Value.bool.injEq] at hgb
          try simp only [decide_eq_true_eq, decide_eq_false_iff_not, Bool.or_eq_true, Bool.and_eq_true, Bool.or_eq_false_iff, Bool.and_eq_false_iff, Bool.not_eq_true', Bool.not_eq_false', Int.not_lt, Int.not_le, ne_eq, Decidable.not_not] at hgb
          skip
          exact CallOK.sub (r := [(89, _), (92, _), (0, _), (4, _), (5, _), (6, _), (8, _), (9, _), (10, _), (11, _), (12, _)]) ⟨congrArg some e19, congrArg some e22, rfl, rfl, rfl, rfl, rfl, rfl, rfl, rfl, rfl, trivial⟩ (by
            exact CallOK.V (enters_of rfl rfl hb16) (rrecords' hN.sat hE3 (hA.take k) rfl hrk))
          ), (fun _ _ _ _ _ _ h => h), (fun _ _ _ _ _ _ h => h), ?_⟩
      refine ⟨_, false, (fun σ ι w1 hg hd hon => by
          have f17 := hd 17 (by decide) _ rfl
          have f23 := hd 23 (by decide) _ rfl
          have e17 : σ 17 = _ := f17.1 trivial
          have ec : σ 17 = _ := f17.1 trivial
          exact OpOK.id (by refine OpOK.and (dc := 87) (dy := 93) (kc := σ 17) (ky := σ 23) ?_ ?_ ec (fun hb => f23.1 (by show σ 17 = _; rw [ec]; exact congrArg Value.bool hb)) <;> rfl)
          ), (fun _ _ _ _ _ _ h => h), (FreeR.no _), ?_⟩
      refine ⟨_, false, (fun σ ι w1 hg hd hon => by
          have f24 := hd 24 (by decide) _ rfl
          have e24 : σ 24 = _ := f24.1 trivial
          exact OpOK.sub (r := [(94, _), (0, _), (4, _), (5, _), (6, _), (8, _), (9, _), (10, _), (11, _), (12, _)]) ⟨congrArg some e24, rfl, rfl, rfl, rfl, rfl, rfl, rfl, rfl, rfl, trivial⟩ (by
            exact OpOK.eq (r_move rfl))
          ), (fun _ _ _ _ _ _ h => h), (FreeR.no _), ?_⟩
      refine ⟨_, false, (fun σ ι w1 hg hd hon => by
          have f25 := hd 25 (by decide) _ rfl
          have e25 : σ 25 = _ := f25.1 trivial
          have hgd : σ 25 = .bool true := hon
          have hgb := (f25.1 trivial : σ 25 = _).symm.trans hgd
          simp only [Value.bool.injEq] at hgb
          try simp only [decide_eq_true_eq, decide_eq_false_iff_not, Bool.or_eq_true, Bool.and_eq_true, Bool.or_eq_false_iff, Bool.and_eq_false_iff, Bool.not_eq_true', Bool.not_eq_false', Int.not_lt, Int.not_le, ne_eq, Decidable.not_not] at hgb
          exact OpOK.sub (r := [(0, _), (4, _), (5, _), (6, _), (8, _), (9, _), (10, _), (11, _), (12, _)]) ⟨rfl, rfl, rfl, rfl, rfl, rfl, rfl, rfl, rfl, trivial⟩ (by
            exact OpOK.eq (r_fld fld34_1 rfl))
          ), (fun _ _ _ _ _ _ h => h), (FreeR.no _), ?_⟩
      refine ⟨_, false, (fun σ ι w1 hg hd hon => by
          have hN := hN.ofGr ((Gr.refl _).drew.trans hg)
          have hB12 := hB12.gr ((Gr.refl _).drew.trans hg)
          have f26 := hd 26 (by decide) _ rfl
          have f25 := hd 25 (by decide) _ rfl
          have e26 : σ 26 = _ := f26.1 hon
          have e25 : σ 25 = _ := f25.1 trivial
          have hgd : σ 25 = .bool true := hon
          have hgb := (f25.1 trivial : σ 25 = _).symm.trans hgd
          simp only [Value.bool.injEq] at hgb
          try simp only [decide_eq_true_eq, decide_eq_false_iff_not, Bool.or_eq_true, Bool.and_eq_true, Bool.or_eq_false_iff, Bool.and_eq_false_iff, Bool.not_eq_true', Bool.not_eq_false', Int.not_lt, Int.not_le, ne_eq, Decidable.not_not] at hgb
          exact OpOK.sub (r := [(96, _), (0, _), (4, _), (5, _), (6, _), (8, _), (9, _), (10, _), (11, _), (12, _)]) ⟨congrArg some e26, rfl, rfl, rfl, rfl, rfl, rfl, rfl, rfl, rfl, trivial⟩ (by
            exact OpOK.eq (r_load sc22 rfl (hB12.cell rfl)))
          ), (fun _ _ _ _ _ _ h => h), (FreeR.no _), ?_⟩
      refine ⟨_, false, (fun σ ι w1 hg hd hon => by
          have f25 := hd 25 (by decide) _ rfl
          have e25 : σ 25 = _ := f25.1 trivial
          have hgd : σ 25 = .bool true := hon
          have hgb := (f25.1 trivial : σ 25 = _).symm.trans hgd
          simp only [Value.bool.injEq] at hgb
          try simp only [decide_eq_true_eq, decide_eq_false_iff_not, Bool.or_eq_true, Bool.and_eq_true, Bool.or_eq_false_iff, Bool.and_eq_false_iff, Bool.not_eq_true', Bool.not_eq_false', Int.not_lt, Int.not_le, ne_eq, Decidable.not_not] at hgb
          exact OpOK.sub (r := [(0, _), (4, _), (5, _), (6, _), (8, _), (9, _), (10, _), (11, _), (12, _)]) ⟨rfl, rfl, rfl, rfl, rfl, rfl, rfl, rfl, rfl, trivial⟩ (by
            exact OpOK.eq (r_move rfl))
          ), (fun _ _ _ _ _ _ h => h), (FreeR.no _), ?_⟩
      refine ⟨_, false, (fun σ ι w1 hg hd hon => by
          have f25 := hd 25 (by decide) _ rfl
          have e25 : σ 25 = _ := f25.1 trivial
          have hgd : σ 25 = .bool true := hon
          have hgb := (f25.1 trivial : σ 25 = _).symm.trans hgd
          simp only [Value.bool.injEq] at hgb
          try simp only [decide_eq_true_eq, decide_eq_false_iff_not, Bool.or_eq_true, Bool.and_eq_true, Bool.or_eq_false_iff, Bool.and_eq_false_iff, Bool.not_eq_true', Bool.not_eq_false', Int.not_lt, Int.not_le, ne_eq, Decidable.not_not] at hgb
          exact OpOK.sub (r := [(0, _), (4, _), (5, _), (6, _), (8, _), (9, _), (10, _), (11, _), (12, _)]) ⟨rfl, rfl, rfl, rfl, rfl, rfl, rfl, rfl, rfl, trivial⟩ (by
            exact OpOK.eq (r_move rfl))
          ), (fun _ _ _ _ _ _ h => h), (FreeR.no _), ?_⟩
      refine ⟨_, false, (fun σ ι w1 hg hd hon => by
          have f25 := hd 25 (by decide) _ rfl
          have e25 : σ 25 = _ := f25.1 trivial
          have hgd : σ 25 = .bool true := hon
          have hgb := (f25.1 trivial : σ 25 = _).symm.trans hgd
          simp only [Value.bool.injEq] at hgb
          try simp only [decide_eq_true_eq, decide_eq_false_iff_not, Bool.or_eq_true, Bool.and_eq_true, Bool.or_eq_false_iff, Bool.and_eq_false_iff, Bool.not_eq_true', Bool.not_eq_false', Int.not_lt, Int.not_le, ne_eq, Decidable.not_not] at hgb
          exact OpOK.sub (r := [(0, _), (4, _), (5, _), (6, _), (8, _), (9, _), (10, _), (11, _), (12, _)]) ⟨rfl, rfl, rfl, rfl, rfl, rfl, rfl, rfl, rfl, trivial⟩ (by
            exact OpOK.eq (r_move rfl))
          ), (fun _ _ _ _ _ _ h => h), (FreeR.no _), ?_⟩
      refine ⟨_, false, (fun σ ι w1 hg hd hon => by
          have f28 := hd 28 (by decide) _ rfl
          have f29 := hd 29 (by decide) _ rfl
          have f30 := hd 30 (by decide) _ rfl
          have f25 := hd 25 (by decide) _ rfl
          have e28 : σ 28 = _ := f28.1 hon
          have e29 : σ 29 = _ := f29.1 hon
          have e30 : σ 30 = _ := f30.1 hon
          have e25 : σ 25 = _ := f25.1 trivial
          have hgd : σ 25 = .bool true := hon
          have hgb := (f25.1 trivial : σ 25 = _).symm.trans hgd
          simp only [Value.bool.injEq] at hgb
          try simp only [decide_eq_true_eq, decide_eq_false_iff_not, Bool.or_eq_true, Bool.and_eq_true, Bool.or_eq_false_iff, Bool.and_eq_false_iff, Bool.not_eq_true', Bool.not_eq_false', Int.not_lt, Int.not_le, ne_eq, Decidable.not_not] at hgb
          exact OpOK.sub (r := [(98, _), (99, _), (100, _), (0, _), (4, _), (5, _), (6, _), (8, _), (9, _), (10, _), (11, _), (12, _)]) ⟨congrArg some e28, congrArg some e29, congrArg some e30, rfl, rfl, rfl, rfl, rfl, rfl, rfl, rfl, rfl, trivial⟩ (by
            exact OpOK.eq (r_part (lo := lo) (hi := n0) Try.underlying22 sz5 rfl rfl rfl rfl rfl (by omega) (by omega)))
          ), (fun _ _ _ _ _ _ h => h), (FreeR.no _), ?_⟩
      refine ⟨_, true, (fun σ ι w1 hg hd hon => by
          have hN := hN.ofGr ((Gr.refl _).drew.trans hg)
          have hB12 := hB12.gr ((Gr.refl _).drew.trans hg)
          have f27 := hd 27 (by decide) _ rfl
          have f31 := hd 31 (by decide) _ rfl
          have f25 := hd 25 (by decide) _ rfl
          have e27 : σ 27 = _ := f27.1 hon
          have e31 : σ 31 = _ := f31.1 hon
          have e25 : σ 25 = _ := f25.1 trivial
          have hgd : σ 25 = .bool true := hon
          have hgb := (f25.1 trivial : σ 25 = _).symm.trans hgd
          simp only [Value.bool.injEq] at hgb
          try simp only [decide_eq_true_eq, decide_eq_false_iff_not, Bool.or_eq_true, Bool.and_eq_true, Bool.or_eq_false_iff, Bool.and_eq_false_iff, Bool.not_eq_true', Bool.not_eq_false', Int.not_lt, Int.not_le, ne_eq, Decidable.not_not] at hgb
          skip
          exact CallOK.sub (r := [(97, _), (101, _), (0, _), (4, _), (5, _), (6, _), (8, _), (9, _), (10, _), (11, _), (12, _)]) ⟨congrArg some e27, congrArg some e31, rfl, rfl, rfl, rfl, rfl, rfl, rfl, rfl, rfl, trivial⟩ (by
            exact CallOK.V (enters_of rfl rfl hb17) (rsame8' hN.sat hE4 ((hE1.off hc1).take (n0 - lo)) (by simp) (by simp; omega)))
          ), (fun _ _ _ _ _ _ h => h), (fun _ _ _ _ _ _ h => h), ?_⟩
      refine ⟨_, false, (fun σ ι w1 hg hd hon => by
          have f25 := hd 25 (by decide) _ rfl
          have f32 := hd 32 (by decide) _ rfl
          have e25 : σ 25 = _ := f25.1 trivial
          have ec : σ 25 = _ := f25.1 trivial
          exact OpOK.id (by refine OpOK.and (dc := 95) (dy := 102) (kc := σ 25) (ky := σ 32) ?_ ?_ ec (fun hb => f32.1 (by show σ 25 = _; rw [ec]; exact congrArg Value.bool hb)) <;> rfl)
          ), (fun _ _ _ _ _ _ h => h), (FreeR.no _), ?_⟩
      refine ⟨_, false, (fun σ ι w1 hg hd hon => by
          have f33 := hd 33 (by decide) _ rfl
          have e33 : σ 33 = _ := f33.1 trivial
          exact OpOK.sub (r := [(103, _), (0, _), (4, _), (5, _), (6, _), (8, _), (9, _), (10, _), (11, _), (12, _)]) ⟨congrArg some e33, rfl, rfl, rfl, rfl, rfl, rfl, rfl, rfl, rfl, trivial⟩ (by
            exact OpOK.eq (r_move rfl))
          ), (fun _ _ _ _ _ _ h => h), (FreeR.no _), ?_⟩
      refine ⟨_, false, (fun σ ι w1 hg hd hon => by
          have f34 := hd 34 (by decide) _ rfl
          have e34 : σ 34 = _ := f34.1 trivial
          have hgd : σ 34 = .bool true := hon
          have hgb := (f34.1 trivial : σ 34 = _).symm.trans hgd
          simp only [Value.bool.injEq] at hgb
          try simp only [decide_eq_true_eq, decide_eq_false_iff_not, Bool.or_eq_true, Bool.and_eq_true, Bool.or_eq_false_iff, Bool.and_eq_false_iff, Bool.not_eq_true', Bool.not_eq_false', Int.not_lt, Int.not_le, ne_eq, Decidable.not_not] at hgb
          exact OpOK.sub (r := [(0, _), (4, _), (5, _), (6, _), (8, _), (9, _), (10, _), (11, _), (12, _)]) ⟨rfl, rfl, rfl, rfl, rfl, rfl, rfl, rfl, rfl, trivial⟩ (by
            exact OpOK.eq (r_move rfl))
          ), (fun _ _ _ _ _ _ h => h), (FreeR.no _), ?_⟩
      refine ⟨_, true, (fun σ ι w1 hg hd hon => by
          have hN := hN.ofGr ((Gr.refl _).drew.trans hg)
          have hB12 := hB12.gr ((Gr.refl _).drew.trans hg)
          have f35 := hd 35 (by decide) _ rfl
          have f34 := hd 34 (by decide) _ rfl
          have e35 : σ 35 = _ := f35.1 hon
          have e34 : σ 34 = _ := f34.1 trivial
          have hgd : σ 34 = .bool true := hon
          have hgb := (f34.1 trivial : σ 34 = _).symm.trans hgd
          simp only [Value.bool.injEq] at hgb
          try simp only [decide_eq_true_eq, decide_eq_false_iff_not, Bool.or_eq_true, Bool.and_eq_true, Bool.or_eq_false_iff, Bool.and_eq_false_iff, Bool.not_eq_true', Bool.not_eq_false', Int.not_lt, Int.not_le, ne_eq, Decidable.not_not] at hgb
          skip
          exact CallOK.sub (r := [(105, _), (0, _), (4, _), (5, _), (6, _), (8, _), (9, _), (10, _), (11, _), (12, _)]) ⟨congrArg some e35, rfl, rfl, rfl, rfl, rfl, rfl, rfl, rfl, rfl, trivial⟩ (by
            exact CallOK.V (enters_of rfl rfl hb18) (jwhole' hN.sat hP rfl (by omega) (by omega)))
          ), (fun _ _ _ _ _ _ h => h), (fun _ _ _ _ _ _ h => h), ?_⟩
      refine ⟨_, false, (fun σ ι w1 hg hd hon => by
          have f34 := hd 34 (by decide) _ rfl
          have e34 : σ 34 = _ := f34.1 trivial
          have hgd : σ 34 = .bool true := hon
          have hgb := (f34.1 trivial : σ 34 = _).symm.trans hgd
          simp only [Value.bool.injEq] at hgb
          try simp only [decide_eq_true_eq, decide_eq_false_iff_not, Bool.or_eq_true, Bool.and_eq_true, Bool.or_eq_false_iff, Bool.and_eq_false_iff, Bool.not_eq_true', Bool.not_eq_false', Int.not_lt, Int.not_le, ne_eq, Decidable.not_not] at hgb
          exact OpOK.sub (r := [(0, _), (4, _), (5, _), (6, _), (8, _), (9, _), (10, _), (11, _), (12, _)]) ⟨rfl, rfl, rfl, rfl, rfl, rfl, rfl, rfl, rfl, trivial⟩ (by
            exact OpOK.eq (r_move rfl))
          ), (fun _ _ _ _ _ _ h => h), (FreeR.no _), ?_⟩
      refine ⟨_, false, (fun σ ι w1 hg hd hon => by
          have f34 := hd 34 (by decide) _ rfl
          have e34 : σ 34 = _ := f34.1 trivial
          have hgd : σ 34 = .bool true := hon
          have hgb := (f34.1 trivial : σ 34 = _).symm.trans hgd
          simp only [Value.bool.injEq] at hgb
          try simp only [decide_eq_true_eq, decide_eq_false_iff_not, Bool.or_eq_true, Bool.and_eq_true, Bool.or_eq_false_iff, Bool.and_eq_false_iff, Bool.not_eq_true', Bool.not_eq_false', Int.not_lt, Int.not_le, ne_eq, Decidable.not_not] at hgb
          exact OpOK.sub (r := [(0, _), (4, _), (5, _), (6, _), (8, _), (9, _), (10, _), (11, _), (12, _)]) ⟨rfl, rfl, rfl, rfl, rfl, rfl, rfl, rfl, rfl, trivial⟩ (by
            exact OpOK.eq (r_move rfl))
          ), (fun _ _ _ _ _ _ h => h), (FreeR.no _), ?_⟩
      refine ⟨_, false, (fun σ ι w1 hg hd hon => by
          have f37 := hd 37 (by decide) _ rfl
          have f38 := hd 38 (by decide) _ rfl
          have f34 := hd 34 (by decide) _ rfl
          have e37 : σ 37 = _ := f37.1 hon
          have e38 : σ 38 = _ := f38.1 hon
          have e34 : σ 34 = _ := f34.1 trivial
          have hgd : σ 34 = .bool true := hon
          have hgb := (f34.1 trivial : σ 34 = _).symm.trans hgd
          simp only [Value.bool.injEq] at hgb
          try simp only [decide_eq_true_eq, decide_eq_false_iff_not, Bool.or_eq_true, Bool.and_eq_true, Bool.or_eq_false_iff, Bool.and_eq_false_iff, Bool.not_eq_true', Bool.not_eq_false', Int.not_lt, Int.not_le, ne_eq, Decidable.not_not] at hgb
          exact OpOK.sub (r := [(107, _), (108, _), (0, _), (4, _), (5, _), (6, _), (8, _), (9, _), (10, _), (11, _), (12, _)]) ⟨congrArg some e37, congrArg some e38, rfl, rfl, rfl, rfl, rfl, rfl, rfl, rfl, rfl, trivial⟩ (by
            exact OpOK.eq (r_upto (hi := lo) Try.underlying22 sz5 rfl rfl rfl (by omega)))
          ), (fun _ _ _ _ _ _ h => h), (FreeR.no _), ?_⟩
      refine ⟨_, true, (fun σ ι w1 hg hd hon => by
          have hN := hN.ofGr ((Gr.refl _).drew.trans hg)
          have hB12 := hB12.gr ((Gr.refl _).drew.trans hg)
          have f36 := hd 36 (by decide) _ rfl
          have f39 := hd 39 (by decide) _ rfl
          have f34 := hd 34 (by decide) _ rfl
          have e36 : σ 36 = _ := f36.1 hon
          have e39 : σ 39 = _ := f39.1 hon
          have e34 : σ 34 = _ := f34.1 trivial
          have hgd : σ 34 = .bool true := hon
          have hgb := (f34.1 trivial : σ 34 = _).symm.trans hgd
          simp only [Value.bool.injEq] at hgb
          try simp only [decide_eq_true_eq, decide_eq_false_iff_not, Bool.or_eq_true, Bool.and_eq_true, Bool.or_eq_false_iff, Bool.and_eq_false_iff, Bool.not_eq_true', Bool.not_eq_false', Int.not_lt, Int.not_le, ne_eq, Decidable.not_not] at hgb
          skip
          exact CallOK.sub (r := [(106, _), (109, _), (0, _), (4, _), (5, _), (6, _), (8, _), (9, _), (10, _), (11, _), (12, _)]) ⟨congrArg some e36, congrArg some e39, rfl, rfl, rfl, rfl, rfl, rfl, rfl, rfl, rfl, trivial⟩ (by
            exact CallOK.V (enters_of rfl rfl hb17) (rsame8' (l := pl.take lo) (m := jl.take lo) hN.sat (hP.take lo) (hE1.take lo) (by rw [hjl0]; simp; omega) (by simp; omega)))
          ), (fun _ _ _ _ _ _ h => h), (fun _ _ _ _ _ _ h => h), ?_⟩
      refine ⟨_, false, (fun σ ι w1 hg hd hon => by
          have f34 := hd 34 (by decide) _ rfl
          have f40 := hd 40 (by decide) _ rfl
          have e34 : σ 34 = _ := f34.1 trivial
          have ec : σ 34 = _ := f34.1 trivial
          exact OpOK.id (by refine OpOK.and (dc := 104) (dy := 110) (kc := σ 34) (ky := σ 40) ?_ ?_ ec (fun hb => f40.1 (by show σ 34 = _; rw [ec]; exact congrArg Value.bool hb)) <;> rfl)
          ), (fun _ _ _ _ _ _ h => h), (FreeR.no _), ?_⟩
      intro σ ι a61 w20 hgw20 H109 hd hap
      skip
      have hN0 := hN
      have hN := hN.ofGr ((Gr.refl _).drew.trans hgw20)
      replace hB12 := hB12.gr ((Gr.refl _).drew.trans hgw20)
      have e41 : σ 41 = _ := (hd 41 (by decide) _ rfl).1 trivial
      replace H109 := H109.sub (r := [(111, _), (0, _), (4, _), (5, _), (6, _), (8, _), (9, _), (10, _), (11, _), (12, _)]) ⟨congrArg some e41, rfl, rfl, rfl, rfl, rfl, rfl, rfl, rfl, rfl, trivial⟩
      clear hd
      replace H109 := H109.known (t := 111) (b := true) rfl (by rw [hln, hdt, hpt]; by_cases h : lo < n0 <;> simp [h] <;> omega)
      clear hap
      refine wl1 H109 (r_move rfl) rfl rfl rfl rfl fun a62 H110 => ?_
      clear H109 a61
      refine wl_on (d := 112) H110 rfl rfl rfl ?_
      refine wl1 H110 (r_move rfl) rfl rfl rfl rfl fun a63 H111 => ?_
      clear H110 a62
      refine wl1 H111 (r_pick_t rfl rfl) rfl rfl rfl rfl fun a64 H112 => ?_
      clear H111 a63
      refine wl1 H112 (r_assign rfl) rfl rfl rfl rfl fun a65 H113 => ?_
      clear H112 a64
      refine wl_end ?_
      refine th_n ?_
      refine wpIn_ret ?_
      refine fin_r H113 (res1 rfl H113 rfl) ?_
      exact ⟨rfl, hN.gr⟩
  -- UNUSED r16.41
end Go.Proofs.Yteinlgobadlgnaa
