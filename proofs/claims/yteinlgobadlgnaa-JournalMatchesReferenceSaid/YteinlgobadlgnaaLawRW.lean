/- The law JournalRecords, walked. -/
import Derived.Test.YteinlgobadlgnaaLawUW
set_option linter.unusedVariables false
set_option linter.unusedSimpArgs false
namespace Go.Proofs.Yteinlgobadlgnaa
open Go.RowKit


theorem jends_get {rs : List (List Int)} (hg : good rs) (hl : lenR rs ≤ 65536) {k : Nat} (hk : k < rs.length) : (jends rs)[k]'(by rw [jends_length]; exact hk) = (lenR (rs.take (k + 1)) : Int) := by
  simp only [jends, List.getElem_map, List.getElem_range]
  rw [jfold_chain (hg.take _) (by have := lenR_take rs (k + 1); omega), chainB_length]

set_option maxRecDepth 100000 in
set_option maxHeartbeats 1000000 in
theorem records_ret {A : Option Addr} {c : Nat} {rs : List (List Int)} {x : Int} {I : Im} {w : World} (hS : Sat I w) (hA : Els (kSl (kInt .i64)) I A rs) (hx : 0 ≤ x ∧ x ≤ 65535) :
    Ret Try.prog 4 [.slice A rs.length c, .int .u16 x] w (fun v w' => v = .bool true ∧ Gr w w') := by
  have hxk := hA.rowsIn
  obtain ⟨n0, hn0⟩ : ∃ n : Nat, x % 600 = (n : Int) := ⟨(x % 600).toNat, by omega⟩
  have hn6 : n0 < 600 := by omega
  refine ret_of (N := 118) Try.func4 rfl rfl rfl fun a0 H0 => ?_
  have hN := New.refl hS
  simp only [argsEnv, Nat.zero_add, Nat.reduceAdd] at H0
  refine wpIn_seq ?_
  refine w_reg ?_
  refine wl1 H0 (r_assign rfl) rfl rfl rfl rfl fun a1 H1 => ?_
  clear H0 a0
  refine wl_end ?_
  refine th_n ?_
  refine wpIn_seq ?_
  refine w_reg ?_
  refine wlc  H1 rfl rfl hb9 rfl (examples_ret hN.sat) fun v w1 hR a2 H2 => ?_
  clear H1 a1
  obtain ⟨rfl, gw1⟩ := hR
  have hN := hN.ofGr gw1
  replace H2 := H2.known (t := 12) (b := true) rfl rfl
  refine wl1 H2 (r_assign rfl) rfl rfl rfl rfl fun a3 H3 => ?_
  clear H2 a2
  refine wl_end ?_
  refine th_n ?_
  refine wpIn_seq ?_
  refine wpIn_seq ?_
  refine w_reg ?_
  refine wl1 H3 (r_move rfl) rfl rfl rfl rfl fun a4 H4 => ?_
  clear H3 a3
  refine wl1 H4 (r_not rfl) rfl rfl rfl rfl fun a5 H5 => ?_
  clear H4 a4
  replace H5 := H5.known (t := 14) (b := false) rfl rfl
  refine wl_end ?_
  refine th_n ?_
  refine w_ff H5 rfl rfl ?_
  refine wpIn_skip ?_
  refine th_n ?_
  refine wpIn_seq ?_
  refine wpIn_seq ?_
  refine w_reg ?_
  refine wl1 H5 (r_move rfl) rfl rfl rfl rfl fun a6 H6 => ?_
  clear H5 a5
  refine wlc  H6 rfl rfl hb10 rfl (rsmall hN.sat hA) fun v w2 hR a7 H7 => ?_
  clear H6 a6
  obtain ⟨rfl, gw2⟩ := hR
  have hN := hN.ofGr gw2
  refine wl1 H7 (r_not rfl) rfl rfl rfl rfl fun a8 H8 => ?_
  clear H7 a7
  refine wl_end ?_
  refine th_n ?_
  first | refine w_if H8 rfl (fun hc17 => ?_) (fun hc17 => ?_) | refine w_cond H8 rfl (fun hc17 => ?_) (fun hc17 => ?_)
  ·
    try simp only [decide_eq_true_eq, decide_eq_false_iff_not, Bool.or_eq_true, Bool.and_eq_true, Bool.or_eq_false_iff, Bool.and_eq_false_iff, Bool.not_eq_true', Bool.not_eq_false', Int.not_lt, Int.not_le, ne_eq, Decidable.not_not] at hc17
    refine wpIn_seq ?_
    refine w_reg ?_
    refine wl1 H8 (r_move rfl) rfl rfl rfl rfl fun a9 H9 => ?_
    clear H8 a8
    refine wl1 H9 (r_assign rfl) rfl rfl rfl rfl fun a10 H10 => ?_
    clear H9 a9
    refine wl_end ?_
    refine th_n ?_
    refine wpIn_ret ?_
    refine th_r ?_
    refine fin_r H10 (res1 rfl H10 rfl) ?_
    exact ⟨rfl, hN.gr⟩
  ·
    try simp only [decide_eq_true_eq, decide_eq_false_iff_not, Bool.or_eq_true, Bool.and_eq_true, Bool.or_eq_false_iff, Bool.and_eq_false_iff, Bool.not_eq_true', Bool.not_eq_false', Int.not_lt, Int.not_le, ne_eq, Decidable.not_not] at hc17
    have hsm := small_lenR hc17
    have hgd := small_good hc17 hxk
    have hjf := small_jfold hc17 hxk
    obtain ⟨jl, hjl⟩ : ∃ x, x = chainB 0 rs := ⟨_, rfl⟩
    have hjn : jl.length = lenR rs := by rw [hjl, chainB_length]
    have hjj : jall jl 0 = ⟨rs, jl.length, lastK 0 rs⟩ := by rw [hjn, hjl, jall_chain' hgd]
    have hrl := (small_len hc17).1
    refine wpIn_skip ?_
    refine th_n ?_
    refine wpIn_seq ?_
    refine w_reg ?_
    refine wl1 H8 (r_move rfl) rfl rfl rfl rfl fun a9 H11 => ?_
    clear H8 a8
    refine wlc  H11 rfl rfl hb22 rfl (lmade hN.sat hA (by omega)) fun v w3 hR a10 H12 => ?_
    clear H11 a9
    obtain ⟨J3, nw3, ⟨A1, c1, A2, c2, rfl, hc1, hE1, hc2, hE2⟩⟩ := hR
    replace hA := hA.up nw3.le
    have hN := hN.trans nw3
    rw [hjf, ← hjl] at H12 hc1 hE1
    refine wl1 H12 (r_move rfl) rfl rfl rfl rfl fun a11 H13 => ?_
    clear H12 a10
    refine wl1 H13 (r_extract rfl rfl) rfl rfl rfl rfl fun a12 H14 => ?_
    clear H13 a11
    refine wl1 H14 (r_extract rfl rfl) rfl rfl rfl rfl fun a13 H15 => ?_
    clear H14 a12
    refine wl1 H15 (r_assign rfl) rfl rfl rfl rfl fun a14 H16 => ?_
    clear H15 a13
    refine wl1 H16 (r_assign rfl) rfl rfl rfl rfl fun a15 H17 => ?_
    clear H16 a14
    refine wl_end ?_
    refine th_n ?_
    refine wpIn_seq ?_
    refine w_reg ?_
    refine wl1 H17 (r_assign rfl) rfl rfl rfl rfl fun a16 H18 => ?_
    clear H17 a15
    refine wl_end ?_
    refine th_n ?_
    refine wpIn_seq ?_
    refine wpIn_seq ?_
    refine w_reg ?_
    refine wl1 H18 (r_assign rfl) rfl rfl rfl rfl fun a17 H19 => ?_
    clear H18 a16
    refine wl_end ?_
    refine th_n ?_
    refine wpIn_block ?_
    refine w_loop (ι := Nat) (fun k => [(8, .int .i64 ((lenR (rs.take k) : Nat) : Int)), (9, .int .i64 (k : Int))]) (fun k W => New I w J3 W ∧ (k ≤ rs.length)) (fun k => rs.length - k) (l0 := [(0, _), (1, _), (5, _), (6, _), (7, _)]) 0 H19 ⟨rfl, rfl, rfl, rfl, rfl, rfl, rfl, trivial⟩ ⟨hN, Nat.zero_le _⟩ ?_
    rintro k a18 w4 H20 ⟨hN, hk⟩
    clear H19 a17
    simp only [List.cons_append, List.nil_append] at H20
    refine wpIn_seq ?_
    refine wpIn_seq ?_
    refine w_reg ?_
    refine wl1 H20 (r_move rfl) rfl rfl rfl rfl fun a19 H21 => ?_
    clear H20 a18
    refine wl1 H21 (r_move rfl) rfl rfl rfl rfl fun a20 H22 => ?_
    clear H21 a19
    refine wl1 H22 (r_len Try.underlying23 rfl) rfl rfl rfl rfl fun a21 H23 => ?_
    clear H22 a20
    refine wl1 H23 (r_lss rfl rfl) rfl rfl rfl rfl fun a22 H24 => ?_
    clear H23 a21
    refine wl_end ?_
    refine th_n ?_
    first | refine w_if H24 rfl (fun hc27 => ?_) (fun hc27 => ?_) | refine w_cond H24 rfl (fun hc27 => ?_) (fun hc27 => ?_)
    ·
      try simp only [decide_eq_true_eq, decide_eq_false_iff_not, Bool.or_eq_true, Bool.and_eq_true, Bool.or_eq_false_iff, Bool.and_eq_false_iff, Bool.not_eq_true', Bool.not_eq_false', Int.not_lt, Int.not_le, ne_eq, Decidable.not_not] at hc27
      obtain ⟨bA, oA, rfl⟩ := hA.form (by omega)
      have hkl : k < rs.length := by omega
      obtain ⟨AA, cA, hcA, hlA, hEA⟩ := hA.rowAt hkl
      obtain ⟨b2, o2, rfl⟩ := hE2.form (by rw [jends_length]; omega)
      have hkj : k < (jends rs).length := by rw [jends_length]; exact hkl
      have hls := lenR_succ hkl
      have hlt := lenR_take rs (k + 1)
      refine wpIn_skip ?_
      refine th_n ?_
      refine wpIn_seq ?_
      refine wpIn_block ?_
      refine wpIn_seq ?_
      refine w_reg ?_
      refine wl1 H24 (r_move rfl) rfl rfl rfl rfl fun a23 H25 => ?_
      clear H24 a22
      refine wl1 H25 (r_move rfl) rfl rfl rfl rfl fun a24 H26 => ?_
      clear H25 a23
      refine wl1 H26 (r_move rfl) rfl rfl rfl rfl fun a25 H27 => ?_
      clear H26 a24
      refine wl1 H27 (r_idx Try.underlying23 sz29 rfl rfl (i := k) rfl (by omega)) rfl rfl rfl rfl fun a26 H28 => ?_
      clear H27 a25
      refine wl1 H28 (r_load sc29 rfl (hN.sat.cell hcA)) rfl rfl rfl rfl fun a27 H29 => ?_
      clear H28 a26
      refine wl1 H29 (r_len Try.underlying29 rfl) rfl rfl rfl rfl fun a28 H30 => ?_
      clear H29 a27
      first | refine wl1 H30 (r_mulk rfl rfl (by simp only [InK]; omega)) rfl rfl rfl rfl fun a29 H31 => ?_ | refine wl1 H30 (r_mul rfl rfl) rfl rfl rfl rfl fun a29 H31 => ?_
      clear H30 a28
      first | refine wl1 H31 (r_addk rfl rfl (by simp only [InK]; omega)) rfl rfl rfl rfl fun a30 H32 => ?_ | refine wl1 H31 (r_add rfl rfl) rfl rfl rfl rfl fun a30 H32 => ?_
      clear H31 a29
      first | refine wl1 H32 (r_addk rfl rfl (by simp only [InK]; omega)) rfl rfl rfl rfl fun a31 H33 => ?_ | refine wl1 H32 (r_add rfl rfl) rfl rfl rfl rfl fun a31 H33 => ?_
      clear H32 a30
      rw [show (((lenR (rs.take k) : Nat) : Int) + (24 + 8 * (rs[k].length : Int))) = ((lenR (rs.take (k + 1)) : Nat) : Int) by omega] at H33
      refine wl1 H33 (r_assign rfl) rfl rfl rfl rfl fun a32 H34 => ?_
      clear H33 a31
      refine wl_end ?_
      refine th_n ?_
      refine wpIn_seq ?_
      refine w_reg ?_
      refine wl1 H34 (r_move rfl) rfl rfl rfl rfl fun a33 H35 => ?_
      clear H34 a32
      refine wl1 H35 (r_move rfl) rfl rfl rfl rfl fun a34 H36 => ?_
      clear H35 a33
      refine wl1 H36 (r_idx Try.underlying29 sz3 rfl rfl (i := k) rfl (by omega)) rfl rfl rfl rfl fun a35 H37 => ?_
      clear H36 a34
      refine wl1 H37 (r_load sc3 rfl (hN.sat.cell (hE2.num (j := k) hkj).1)) rfl rfl rfl rfl fun a36 H38 => ?_
      clear H37 a35
      rw [jends_get hgd (by omega) hkl] at H38
      refine wl1 H38 (r_move rfl) rfl rfl rfl rfl fun a37 H39 => ?_
      clear H38 a36
      refine wl1 H39 (r_neq rfl rfl) rfl rfl rfl rfl fun a38 H40 => ?_
      clear H39 a37
      replace H40 := H40.known (t := 44) (b := false) rfl (by simp)
      refine wl_end ?_
      refine th_n ?_
      refine w_ff H40 rfl rfl ?_
      refine wpIn_skip ?_
      refine bl_n ?_
      refine th_n ?_
      refine w_reg ?_
      refine wl1 H40 (r_move rfl) rfl rfl rfl rfl fun a39 H41 => ?_
      clear H40 a38
      first | refine wl1 H41 (r_addk rfl rfl (by simp only [InK]; omega)) rfl rfl rfl rfl fun a40 H42 => ?_ | refine wl1 H41 (r_add rfl rfl) rfl rfl rfl rfl fun a40 H42 => ?_
      clear H41 a39
      refine wl1 H42 (r_assign rfl) rfl rfl rfl rfl fun a41 H43 => ?_
      clear H42 a40
      refine wl_end ?_
      exact th_n ⟨k + 1, (by omega), H43.sub ⟨rfl, rfl, rfl, rfl, rfl, rfl, rfl, trivial⟩, hN, by omega⟩
    ·
      try simp only [decide_eq_true_eq, decide_eq_false_iff_not, Bool.or_eq_true, Bool.and_eq_true, Bool.or_eq_false_iff, Bool.and_eq_false_iff, Bool.not_eq_true', Bool.not_eq_false', Int.not_lt, Int.not_le, ne_eq, Decidable.not_not] at hc27
      rw [show k = rs.length by omega, List.take_length] at H24
      refine wpIn_exit ?_
      refine th_x ?_
      refine th_x ?_
      refine bl_hit ?_
      refine th_n ?_
      refine wpIn_seq ?_
      refine w_reg ?_
      refine wl1 H24 (r_move rfl) rfl rfl rfl rfl fun a23 H44 => ?_
      clear H24 a22
      refine wlc  H44 rfl rfl hb12 rfl (lread hN.sat hE1 hc1 (by omega)) fun v w5 hR a24 H45 => ?_
      clear H44 a23
      obtain ⟨J5, nw5, ⟨A3, c3, A4, c4, rfl, hc3, hE3, hc4, hE4⟩⟩ := hR
      replace hA := hA.up nw5.le
      replace hE1 := hE1.up nw5.le
      replace hE2 := hE2.up nw5.le
      have hN := hN.trans nw5
      simp only [hjj] at H45 hE3 hE4 hc3 hc4
      refine s_alloc H45 zv34 rfl hN fun w6 b10 hN gw6 hB10 hgeb10 heb10 a25 H46 => ?_
      clear H45 a24
      replace hB10 : Box _ _ _ [.slice none 0 0, .slice none 0 0, .int .i64 0, .int .i64 0, .int .u64 0] 34 := hB10
      refine s_storeA (vs := [_, _, _, _, _]) H46 sz34 (by simp) (by simp [Value.oneCell']) rfl rfl hN hB10 (by simp) hgeb10 fun w7 hN hB10 ew7 H47 => ?_
      clear H46
      simp only [Nat.zero_add, Nat.add_zero, Nat.reduceAdd, Nat.reduceMul, List.set_cons_zero, List.set_cons_succ, spliceL] at hB10
      clear ew7
      refine wl_end ?_
      refine th_n ?_
      refine wpIn_seq ?_
      refine w_reg ?_
      refine wl1 H47 (r_move rfl) rfl rfl rfl rfl fun a26 H48 => ?_
      clear H47 a25
      refine wl1 H48 (r_move rfl) rfl rfl rfl rfl fun a27 H49 => ?_
      clear H48 a26
      refine wl1 H49 (r_remk rfl rfl (by omega) (by omega)) rfl rfl rfl rfl fun a28 H50 => ?_
      clear H49 a27
      rw [hn0] at H50
      first | refine wl1 H50 (r_convk Try.underlying24 Try.underlying3 rfl (by simp only [InK]; omega)) rfl rfl rfl rfl fun a29 H51 => ?_ | refine wl1 H50 (r_conv Try.underlying24 Try.underlying3 rfl) rfl rfl rfl rfl fun a29 H51 => ?_
      clear H50 a28
      refine s_make (c := n0) H51 Try.underlying29 nf3 rfl rfl rfl rfl (by omega) rfl rfl hN fun w8 br hN gw8 hBr hgebr hebr a30 H52 => ?_
      clear H51 a29
      have hne_hB10_br := hB10.lt
      rw [← hebr] at hne_hB10_br
      replace hB10 := hB10.gr gw8
      rw [show (Value.slice (some ⟨br, 0, none⟩) n0 n0) = .slice (some ⟨br, 0, none⟩) (List.replicate n0 (0 : Int)).length (List.replicate n0 (0 : Int)).length by simp] at H52
      obtain ⟨zs, hzs⟩ : ∃ z, z = List.replicate n0 (0 : Int) := ⟨_, rfl⟩
      rw [← hzs] at H52
      have hzl : zs.length = n0 := by rw [hzs]; simp
      obtain ⟨Kz8, hN, hEr, hleKz8, hsmKz8⟩ := hN.freezeInts (q := .i64) (xs := zs) hBr (by rw [hzs, List.map_replicate]) hgebr (by omega) (by rw [hzs]; intro x hx; rw [List.eq_of_mem_replicate hx]; simp [InK])
      replace hB10 := hB10.same (hsmKz8 _ (by omega))
      replace hA := hA.up hleKz8
      replace hE1 := hE1.up hleKz8
      replace hE2 := hE2.up hleKz8
      replace hE3 := hE3.up hleKz8
      replace hE4 := hE4.up hleKz8
      refine wlc  H52 rfl rfl hb14 rfl (lput hN.sat hE1 hc1 (by omega) hEr (Nat.le_refl _)) fun v w10 hR a31 H53 => ?_
      clear H52 a30
      obtain ⟨J10, nw10, ⟨A5, c5, rfl, hc5, hE5⟩⟩ := hR
      replace hA := hA.up nw10.le
      replace hE1 := hE1.up nw10.le
      replace hE2 := hE2.up nw10.le
      replace hE3 := hE3.up nw10.le
      replace hE4 := hE4.up nw10.le
      replace hEr := hEr.up nw10.le
      replace hB10 := hB10.next nw10
      have hN := hN.trans nw10
      have hpe : putErr jl zs = if 256 < n0 then 1 else 0 := by rw [hjl, putErr_chain hgd, hzl]; split; rfl; rw [if_neg (by omega)]
      have hpl : (putB jl zs).length = if 256 < n0 then 0 else lenR rs + (24 + 8 * n0) := by
        split
        · unfold putB; rw [if_neg (by rw [hpe, if_pos (by assumption)]; decide)]; rfl
        · rw [hjl, putB_chain hgd (by omega) (by omega), chainB_length, lenR_append]; simp [lenR, hzl]
      rw [hpe] at H53
      obtain ⟨pl, hpl9⟩ : ∃ p, p = putB jl zs := ⟨_, rfl⟩
      rw [← hpl9] at H53 hpl hE5 hc5
      refine s_alloc H53 zv37 rfl hN fun w11 b11 hN gw11 hB11 hgeb11 heb11 a32 H54 => ?_
      clear H53 a31
      replace hB11 : Box _ _ _ [.slice none 0 0, .int .i64 0] 37 := hB11
      have hne_hB10_b11 := hB10.lt
      rw [← heb11] at hne_hB10_b11
      replace hB10 := hB10.gr gw11
      refine s_storeA (vs := [_, _]) H54 sz37 (by simp) (by simp [Value.oneCell']) rfl rfl hN hB11 (by simp) hgeb11 fun w12 hN hB11 ew12 H55 => ?_
      clear H54
      replace hB10 := hB10.otherE ew12 (by omega)
      simp only [Nat.zero_add, Nat.add_zero, Nat.reduceAdd, Nat.reduceMul, List.set_cons_zero, List.set_cons_succ, spliceL] at hB11
      clear ew12
      refine wl_end ?_
      refine th_n ?_
      refine wpIn_seq ?_
      refine wpIn_seq ?_
      refine w_reg ?_
      refine wl1 H55 (r_fld fld37_1 rfl) rfl rfl rfl rfl fun a33 H56 => ?_
      clear H55 a32
      refine wl1 H56 (r_load sc31 rfl (hB11.cell rfl)) rfl rfl rfl rfl fun a34 H57 => ?_
      clear H56 a33
      refine wl1 H57 (r_eql rfl rfl) rfl rfl rfl rfl fun a35 H58 => ?_
      clear H57 a34
      refine wl1 H58 (r_move rfl) rfl rfl rfl rfl fun a36 H59 => ?_
      clear H58 a35
      refine wl1 H59 (r_remk rfl rfl (by omega) (by omega)) rfl rfl rfl rfl fun a37 H60 => ?_
      clear H59 a36
      rw [hn0] at H60
      refine wl1 H60 (r_leq rfl rfl) rfl rfl rfl rfl fun a38 H61 => ?_
      clear H60 a37
      refine wl1 H61 (r_neb Try.underlying4 rfl rfl) rfl rfl rfl rfl fun a39 H62 => ?_
      clear H61 a38
      replace H62 := H62.known (t := 59) (b := false) rfl (by by_cases h : 256 < n0 <;> simp [h] <;> omega)
      refine wl1 H62 (r_move rfl) rfl rfl rfl rfl fun a40 H63 => ?_
      clear H62 a39
      refine wl_on (d := 60) H63 rfl rfl rfl ?_
      refine wl1 H63 (r_fld fld37_1 rfl) rfl rfl rfl rfl fun a41 H64 => ?_
      clear H63 a40
      refine wl_on (d := 60) H64 rfl rfl rfl ?_
      refine wl1 H64 (r_load sc31 rfl (hB11.cell rfl)) rfl rfl rfl rfl fun a42 H65 => ?_
      clear H64 a41
      refine wl_on (d := 60) H65 rfl rfl rfl ?_
      refine wl1 H65 (r_neq rfl rfl) rfl rfl rfl rfl fun a43 H66 => ?_
      clear H65 a42
      refine wl_on (d := 60) H66 rfl rfl rfl ?_
      refine wl1 H66 (r_move rfl) rfl rfl rfl rfl fun a44 H67 => ?_
      clear H66 a43
      refine wl_split (t := 64) H67 rfl (fun hg16_11 H68 => ?_) (fun hg16_11 H68 => ?_)
      ·
        clear H67
        try simp only [decide_eq_true_eq, decide_eq_false_iff_not, Bool.or_eq_true, Bool.and_eq_true, Bool.or_eq_false_iff, Bool.and_eq_false_iff, Bool.not_eq_true', Bool.not_eq_false', Int.not_lt, Int.not_le, ne_eq, Decidable.not_not] at hg16_11
        refine wl_on (d := 64) H68 rfl rfl rfl ?_
        refine wl1 H68 (r_fld fld37_1 rfl) rfl rfl rfl rfl fun a45 H69 => ?_
        clear H68 a44
        refine wl_on (d := 64) H69 rfl rfl rfl ?_
        refine wl1 H69 (r_load sc31 rfl (hB11.cell rfl)) rfl rfl rfl rfl fun a46 H70 => ?_
        clear H69 a45
        refine wl_on (d := 64) H70 rfl rfl rfl ?_
        refine wl1 H70 (r_neq rfl rfl) rfl rfl rfl rfl fun a47 H71 => ?_
        clear H70 a46
        replace H71 := H71.known (t := 67) (b := false) rfl (by by_cases h : 256 < n0 <;> simp [h] at hg16_11 ⊢)
        refine wl_on (d := 64) H71 rfl rfl rfl ?_
        refine wl1 H71 (r_move rfl) rfl rfl rfl rfl fun a48 H72 => ?_
        clear H71 a47
        refine wl_on (d := 68) H72 rfl rfl rfl ?_
        refine wl1 H72 (r_fld fld37_0 rfl) rfl rfl rfl rfl fun a49 H73 => ?_
        clear H72 a48
        refine wl_on (d := 68) H73 rfl rfl rfl ?_
        refine wl1 H73 (r_load sc22 rfl (hB11.cell rfl)) rfl rfl rfl rfl fun a50 H74 => ?_
        clear H73 a49
        refine wl_on (d := 68) H74 rfl rfl rfl ?_
        refine wl1 H74 (r_len Try.underlying22 rfl) rfl rfl rfl rfl fun a51 H75 => ?_
        clear H74 a50
        refine wl_on (d := 68) H75 rfl rfl rfl ?_
        refine wl1 H75 (r_neq rfl rfl) rfl rfl rfl rfl fun a52 H76 => ?_
        clear H75 a51
        replace H76 := H76.known (t := 72) (b := false) rfl (by by_cases h : 256 < n0 <;> simp [h] at hg16_11 hpl ⊢; exact hpl)
        refine wl_on (d := 64) H76 rfl rfl rfl ?_
        refine wl1 H76 (r_pick_f rfl rfl) rfl rfl rfl rfl fun a53 H77 => ?_
        clear H76 a52
        refine wl_on (d := 60) H77 rfl rfl rfl ?_
        refine wl1 H77 (r_pick_t rfl rfl) rfl rfl rfl rfl fun a54 H78 => ?_
        clear H77 a53
        refine wl1 H78 (r_pick_f rfl rfl) rfl rfl rfl rfl fun a55 H79 => ?_
        clear H78 a54
        refine wl1 H79 (r_move rfl) rfl rfl rfl rfl fun a56 H80 => ?_
        clear H79 a55
        refine wl_on (d := 76) H80 rfl rfl rfl ?_
        refine wl1 H80 (r_fld fld37_1 rfl) rfl rfl rfl rfl fun a57 H81 => ?_
        clear H80 a56
        refine wl_on (d := 76) H81 rfl rfl rfl ?_
        refine wl1 H81 (r_load sc31 rfl (hB11.cell rfl)) rfl rfl rfl rfl fun a58 H82 => ?_
        clear H81 a57
        refine wl_on (d := 76) H82 rfl rfl rfl ?_
        refine wl1 H82 (r_eql rfl rfl) rfl rfl rfl rfl fun a59 H83 => ?_
        clear H82 a58
        refine wl_on (d := 76) H83 rfl rfl rfl ?_
        refine wl1 H83 (r_move rfl) rfl rfl rfl rfl fun a60 H84 => ?_
        clear H83 a59
        refine wl_split (t := 80) H84 rfl (fun hg16_27 H85 => ?_) (fun hg16_27 H85 => ?_)
        ·
          clear H84
          try simp only [decide_eq_true_eq, decide_eq_false_iff_not, Bool.or_eq_true, Bool.and_eq_true, Bool.or_eq_false_iff, Bool.and_eq_false_iff, Bool.not_eq_true', Bool.not_eq_false', Int.not_lt, Int.not_le, ne_eq, Decidable.not_not] at hg16_27
          refine wl_on (d := 80) H85 rfl rfl rfl ?_
          refine wl1 H85 (r_fld fld37_0 rfl) rfl rfl rfl rfl fun a61 H86 => ?_
          clear H85 a60
          refine wl_on (d := 80) H86 rfl rfl rfl ?_
          refine wl1 H86 (r_load sc22 rfl (hB11.cell rfl)) rfl rfl rfl rfl fun a62 H87 => ?_
          clear H86 a61
          refine wl_on (d := 80) H87 rfl rfl rfl ?_
          refine wl1 H87 (r_len Try.underlying22 rfl) rfl rfl rfl rfl fun a63 H88 => ?_
          clear H87 a62
          refine wl_on (d := 80) H88 rfl rfl rfl ?_
          refine wl1 H88 (r_move rfl) rfl rfl rfl rfl fun a64 H89 => ?_
          clear H88 a63
          refine wl_on (d := 80) H89 rfl rfl rfl ?_
          first | refine wl1 H89 (r_addk rfl rfl (by simp only [InK]; omega)) rfl rfl rfl rfl fun a65 H90 => ?_ | refine wl1 H89 (r_add rfl rfl) rfl rfl rfl rfl fun a65 H90 => ?_
          clear H89 a64
          refine wl_on (d := 80) H90 rfl rfl rfl ?_
          refine wl1 H90 (r_move rfl) rfl rfl rfl rfl fun a66 H91 => ?_
          clear H90 a65
          refine wl_on (d := 80) H91 rfl rfl rfl ?_
          refine wl1 H91 (r_remk rfl rfl (by omega) (by omega)) rfl rfl rfl rfl fun a67 H92 => ?_
          clear H91 a66
          rw [hn0] at H92
          refine wl_on (d := 80) H92 rfl rfl rfl ?_
          first | refine wl1 H92 (r_convk Try.underlying24 Try.underlying3 rfl (by simp only [InK]; omega)) rfl rfl rfl rfl fun a68 H93 => ?_ | refine wl1 H92 (r_conv Try.underlying24 Try.underlying3 rfl) rfl rfl rfl rfl fun a68 H93 => ?_
          clear H92 a67
          refine wl_on (d := 80) H93 rfl rfl rfl ?_
          first | refine wl1 H93 (r_mulk rfl rfl (by simp only [InK]; omega)) rfl rfl rfl rfl fun a69 H94 => ?_ | refine wl1 H93 (r_mul rfl rfl) rfl rfl rfl rfl fun a69 H94 => ?_
          clear H93 a68
          refine wl_on (d := 80) H94 rfl rfl rfl ?_
          first | refine wl1 H94 (r_addk rfl rfl (by simp only [InK]; omega)) rfl rfl rfl rfl fun a70 H95 => ?_ | refine wl1 H94 (r_add rfl rfl) rfl rfl rfl rfl fun a70 H95 => ?_
          clear H94 a69
          refine wl_on (d := 80) H95 rfl rfl rfl ?_
          refine wl1 H95 (r_neq rfl rfl) rfl rfl rfl rfl fun a71 H96 => ?_
          clear H95 a70
          replace H96 := H96.known (t := 91) (b := false) rfl (by by_cases h : 256 < n0 <;> simp [h] at hg16_27 hpl ⊢; omega)
          refine wl_on (d := 76) H96 rfl rfl rfl ?_
          refine wl1 H96 (r_pick_t rfl rfl) rfl rfl rfl rfl fun a72 H97 => ?_
          clear H96 a71
          refine wl1 H97 (r_pick_f rfl rfl) rfl rfl rfl rfl fun a73 H98 => ?_
          clear H97 a72
          refine wl_end ?_
          refine th_n ?_
          refine w_ff H98 rfl rfl ?_
          refine wpIn_skip ?_
          refine th_n ?_
          refine wpIn_seq ?_
          refine w_reg ?_
          refine wl1 H98 (r_fld fld34_2 rfl) rfl rfl rfl rfl fun a74 H99 => ?_
          clear H98 a73
          refine wl1 H99 (r_load sc31 rfl (hB10.cell rfl)) rfl rfl rfl rfl fun a75 H100 => ?_
          clear H99 a74
          refine wl1 H100 (r_eql rfl rfl) rfl rfl rfl rfl fun a76 H101 => ?_
          clear H100 a75
          replace H101 := H101.known (t := 96) (b := true) rfl (by simp)
          refine wl1 H101 (r_move rfl) rfl rfl rfl rfl fun a77 H102 => ?_
          clear H101 a76
          refine wl_on (d := 97) H102 rfl rfl rfl ?_
          refine wl1 H102 (r_fld fld34_1 rfl) rfl rfl rfl rfl fun a78 H103 => ?_
          clear H102 a77
          refine wl_on (d := 97) H103 rfl rfl rfl ?_
          refine wl1 H103 (r_load sc22 rfl (hB10.cell rfl)) rfl rfl rfl rfl fun a79 H104 => ?_
          clear H103 a78
          refine wl_on (d := 97) H104 rfl rfl rfl ?_
          refine wl1 H104 (r_len Try.underlying22 rfl) rfl rfl rfl rfl fun a80 H105 => ?_
          clear H104 a79
          refine wl_on (d := 97) H105 rfl rfl rfl ?_
          refine wl1 H105 (r_eql rfl rfl) rfl rfl rfl rfl fun a81 H106 => ?_
          clear H105 a80
          replace H106 := H106.known (t := 101) (b := true) rfl (by simp)
          refine wl1 H106 (r_pick_t rfl rfl) rfl rfl rfl rfl fun a82 H107 => ?_
          clear H106 a81
          refine wl1 H107 (r_move rfl) rfl rfl rfl rfl fun a83 H108 => ?_
          clear H107 a82
          refine wl_on (d := 103) H108 rfl rfl rfl ?_
          refine wl1 H108 (r_fld fld34_0 rfl) rfl rfl rfl rfl fun a84 H109 => ?_
          clear H108 a83
          refine wl_on (d := 103) H109 rfl rfl rfl ?_
          refine wl1 H109 (r_load sc23 rfl (hB10.cell rfl)) rfl rfl rfl rfl fun a85 H110 => ?_
          clear H109 a84
          refine wl_on (d := 103) H110 rfl rfl rfl ?_
          refine wl1 H110 (r_move rfl) rfl rfl rfl rfl fun a86 H111 => ?_
          clear H110 a85
          refine wl_on (d := 103) H111 rfl rfl rfl ?_
          refine wlc  H111 rfl rfl hb16 rfl (rrecords hN.sat hE3 hA) fun v w13 hR a87 H112 => ?_
          clear H111 a86
          obtain ⟨rfl, gw13⟩ := hR
          have hN := hN.ofGr gw13
          replace hB10 := hB10.gr gw13
          replace hB11 := hB11.gr gw13
          replace H112 := H112.known (t := 107) (b := true) rfl (by simp)
          refine wl1 H112 (r_pick_t rfl rfl) rfl rfl rfl rfl fun a88 H113 => ?_
          clear H112 a87
          refine wl1 H113 (r_move rfl) rfl rfl rfl rfl fun a89 H114 => ?_
          clear H113 a88
          refine wl_on (d := 109) H114 rfl rfl rfl ?_
          refine wl1 H114 (r_move rfl) rfl rfl rfl rfl fun a90 H115 => ?_
          clear H114 a89
          refine wl_on (d := 109) H115 rfl rfl rfl ?_
          refine wlc  H115 rfl rfl hb18 rfl (jwhole hN.sat hE1 hc1 (by omega)) fun v w14 hR a91 H116 => ?_
          clear H115 a90
          obtain ⟨rfl, gw14⟩ := hR
          have hN := hN.ofGr gw14
          replace hB10 := hB10.gr gw14
          replace hB11 := hB11.gr gw14
          simp only [hjj] at H116
          refine wl_on (d := 109) H116 rfl rfl rfl ?_
          refine wl1 H116 (r_move rfl) rfl rfl rfl rfl fun a92 H117 => ?_
          clear H116 a91
          refine wl_on (d := 109) H117 rfl rfl rfl ?_
          refine wlc  H117 rfl rfl hb17 rfl (rsame8 hN.sat hE1 hE1) fun v w15 hR a93 H118 => ?_
          clear H117 a92
          obtain ⟨rfl, gw15⟩ := hR
          have hN := hN.ofGr gw15
          replace hB10 := hB10.gr gw15
          replace hB11 := hB11.gr gw15
          replace H118 := H118.known (t := 113) (b := true) rfl (by simp)
          refine wl1 H118 (r_pick_t rfl rfl) rfl rfl rfl rfl fun a94 H119 => ?_
          clear H118 a93
          refine wl1 H119 (r_move rfl) rfl rfl rfl rfl fun a95 H120 => ?_
          clear H119 a94
          refine wl_on (d := 115) H120 rfl rfl rfl ?_
          refine wl1 H120 (r_move rfl) rfl rfl rfl rfl fun a96 H121 => ?_
          clear H120 a95
          refine wl1 H121 (r_pick_t rfl rfl) rfl rfl rfl rfl fun a97 H122 => ?_
          clear H121 a96
          refine wl1 H122 (r_assign rfl) rfl rfl rfl rfl fun a98 H123 => ?_
          clear H122 a97
          refine wl_end ?_
          refine th_n ?_
          refine wpIn_ret ?_
          refine fin_r H123 (res1 rfl H123 rfl) ?_
          exact ⟨rfl, hN.gr⟩
        ·
          clear H84
          try simp only [decide_eq_true_eq, decide_eq_false_iff_not, Bool.or_eq_true, Bool.and_eq_true, Bool.or_eq_false_iff, Bool.and_eq_false_iff, Bool.not_eq_true', Bool.not_eq_false', Int.not_lt, Int.not_le, ne_eq, Decidable.not_not] at hg16_27
          refine wl_off (d := 80) H85 rfl rfl rfl rfl rfl rfl fun a61 H124 => ?_
          clear H85 a60
          refine wl_off (d := 80) H124 rfl rfl rfl rfl rfl rfl fun a62 H125 => ?_
          clear H124 a61
          refine wl_off (d := 80) H125 rfl rfl rfl rfl rfl rfl fun a63 H126 => ?_
          clear H125 a62
          refine wl_off (d := 80) H126 rfl rfl rfl rfl rfl rfl fun a64 H127 => ?_
          clear H126 a63
          refine wl_off (d := 80) H127 rfl rfl rfl rfl rfl rfl fun a65 H128 => ?_
          clear H127 a64
          refine wl_off (d := 80) H128 rfl rfl rfl rfl rfl rfl fun a66 H129 => ?_
          clear H128 a65
          refine wl_off (d := 80) H129 rfl rfl rfl rfl rfl rfl fun a67 H130 => ?_
          clear H129 a66
          refine wl_off (d := 80) H130 rfl rfl rfl rfl rfl rfl fun a68 H131 => ?_
          clear H130 a67
          refine wl_off (d := 80) H131 rfl rfl rfl rfl rfl rfl fun a69 H132 => ?_
          clear H131 a68
          refine wl_off (d := 80) H132 rfl rfl rfl rfl rfl rfl fun a70 H133 => ?_
          clear H132 a69
          refine wl_off (d := 80) H133 rfl rfl rfl rfl rfl rfl fun a71 H134 => ?_
          clear H133 a70
          refine wl_on (d := 76) H134 rfl rfl rfl ?_
          refine wl1 H134 (r_pick_f rfl rfl) rfl rfl rfl rfl fun a72 H135 => ?_
          clear H134 a71
          refine wl1 H135 (r_pick_f rfl rfl) rfl rfl rfl rfl fun a73 H136 => ?_
          clear H135 a72
          refine wl_end ?_
          refine th_n ?_
          refine w_ff H136 rfl rfl ?_
          refine wpIn_skip ?_
          refine th_n ?_
          refine wpIn_seq ?_
          refine w_reg ?_
          refine wl1 H136 (r_fld fld34_2 rfl) rfl rfl rfl rfl fun a74 H137 => ?_
          clear H136 a73
          refine wl1 H137 (r_load sc31 rfl (hB10.cell rfl)) rfl rfl rfl rfl fun a75 H138 => ?_
          clear H137 a74
          refine wl1 H138 (r_eql rfl rfl) rfl rfl rfl rfl fun a76 H139 => ?_
          clear H138 a75
          replace H139 := H139.known (t := 96) (b := true) rfl (by simp)
          refine wl1 H139 (r_move rfl) rfl rfl rfl rfl fun a77 H140 => ?_
          clear H139 a76
          refine wl_on (d := 97) H140 rfl rfl rfl ?_
          refine wl1 H140 (r_fld fld34_1 rfl) rfl rfl rfl rfl fun a78 H141 => ?_
          clear H140 a77
          refine wl_on (d := 97) H141 rfl rfl rfl ?_
          refine wl1 H141 (r_load sc22 rfl (hB10.cell rfl)) rfl rfl rfl rfl fun a79 H142 => ?_
          clear H141 a78
          refine wl_on (d := 97) H142 rfl rfl rfl ?_
          refine wl1 H142 (r_len Try.underlying22 rfl) rfl rfl rfl rfl fun a80 H143 => ?_
          clear H142 a79
          refine wl_on (d := 97) H143 rfl rfl rfl ?_
          refine wl1 H143 (r_eql rfl rfl) rfl rfl rfl rfl fun a81 H144 => ?_
          clear H143 a80
          replace H144 := H144.known (t := 101) (b := true) rfl (by simp)
          refine wl1 H144 (r_pick_t rfl rfl) rfl rfl rfl rfl fun a82 H145 => ?_
          clear H144 a81
          refine wl1 H145 (r_move rfl) rfl rfl rfl rfl fun a83 H146 => ?_
          clear H145 a82
          refine wl_on (d := 103) H146 rfl rfl rfl ?_
          refine wl1 H146 (r_fld fld34_0 rfl) rfl rfl rfl rfl fun a84 H147 => ?_
          clear H146 a83
          refine wl_on (d := 103) H147 rfl rfl rfl ?_
          refine wl1 H147 (r_load sc23 rfl (hB10.cell rfl)) rfl rfl rfl rfl fun a85 H148 => ?_
          clear H147 a84
          refine wl_on (d := 103) H148 rfl rfl rfl ?_
          refine wl1 H148 (r_move rfl) rfl rfl rfl rfl fun a86 H149 => ?_
          clear H148 a85
          refine wl_on (d := 103) H149 rfl rfl rfl ?_
          refine wlc  H149 rfl rfl hb16 rfl (rrecords hN.sat hE3 hA) fun v w16 hR a87 H150 => ?_
          clear H149 a86
          obtain ⟨rfl, gw16⟩ := hR
          have hN := hN.ofGr gw16
          replace hB10 := hB10.gr gw16
          replace hB11 := hB11.gr gw16
          replace H150 := H150.known (t := 107) (b := true) rfl (by simp)
          refine wl1 H150 (r_pick_t rfl rfl) rfl rfl rfl rfl fun a88 H151 => ?_
          clear H150 a87
          refine wl1 H151 (r_move rfl) rfl rfl rfl rfl fun a89 H152 => ?_
          clear H151 a88
          refine wl_on (d := 109) H152 rfl rfl rfl ?_
          refine wl1 H152 (r_move rfl) rfl rfl rfl rfl fun a90 H153 => ?_
          clear H152 a89
          refine wl_on (d := 109) H153 rfl rfl rfl ?_
          refine wlc  H153 rfl rfl hb18 rfl (jwhole hN.sat hE1 hc1 (by omega)) fun v w17 hR a91 H154 => ?_
          clear H153 a90
          obtain ⟨rfl, gw17⟩ := hR
          have hN := hN.ofGr gw17
          replace hB10 := hB10.gr gw17
          replace hB11 := hB11.gr gw17
          simp only [hjj] at H154
          refine wl_on (d := 109) H154 rfl rfl rfl ?_
          refine wl1 H154 (r_move rfl) rfl rfl rfl rfl fun a92 H155 => ?_
          clear H154 a91
          refine wl_on (d := 109) H155 rfl rfl rfl ?_
          refine wlc  H155 rfl rfl hb17 rfl (rsame8 hN.sat hE1 hE1) fun v w18 hR a93 H156 => ?_
          clear H155 a92
          obtain ⟨rfl, gw18⟩ := hR
          have hN := hN.ofGr gw18
          replace hB10 := hB10.gr gw18
          replace hB11 := hB11.gr gw18
          replace H156 := H156.known (t := 113) (b := true) rfl (by simp)
          refine wl1 H156 (r_pick_t rfl rfl) rfl rfl rfl rfl fun a94 H157 => ?_
          clear H156 a93
          refine wl1 H157 (r_move rfl) rfl rfl rfl rfl fun a95 H158 => ?_
          clear H157 a94
          refine wl_on (d := 115) H158 rfl rfl rfl ?_
          refine wl1 H158 (r_move rfl) rfl rfl rfl rfl fun a96 H159 => ?_
          clear H158 a95
          refine wl1 H159 (r_pick_t rfl rfl) rfl rfl rfl rfl fun a97 H160 => ?_
          clear H159 a96
          refine wl1 H160 (r_assign rfl) rfl rfl rfl rfl fun a98 H161 => ?_
          clear H160 a97
          refine wl_end ?_
          refine th_n ?_
          refine wpIn_ret ?_
          refine fin_r H161 (res1 rfl H161 rfl) ?_
          exact ⟨rfl, hN.gr⟩
      ·
        clear H67
        try simp only [decide_eq_true_eq, decide_eq_false_iff_not, Bool.or_eq_true, Bool.and_eq_true, Bool.or_eq_false_iff, Bool.and_eq_false_iff, Bool.not_eq_true', Bool.not_eq_false', Int.not_lt, Int.not_le, ne_eq, Decidable.not_not] at hg16_11
        refine wl_off (d := 64) H68 rfl rfl rfl rfl rfl rfl fun a45 H162 => ?_
        clear H68 a44
        refine wl_off (d := 64) H162 rfl rfl rfl rfl rfl rfl fun a46 H163 => ?_
        clear H162 a45
        refine wl_off (d := 64) H163 rfl rfl rfl rfl rfl rfl fun a47 H164 => ?_
        clear H163 a46
        refine wl_off (d := 64) H164 rfl rfl rfl rfl rfl rfl fun a48 H165 => ?_
        clear H164 a47
        refine wl_offu (d := 68) H165 rfl rfl rfl rfl rfl rfl fun a49 H166 => ?_
        clear H165 a48
        refine wl_offu (d := 68) H166 rfl rfl rfl rfl rfl rfl fun a50 H167 => ?_
        clear H166 a49
        refine wl_offu (d := 68) H167 rfl rfl rfl rfl rfl rfl fun a51 H168 => ?_
        clear H167 a50
        refine wl_offu (d := 68) H168 rfl rfl rfl rfl rfl rfl fun a52 H169 => ?_
        clear H168 a51
        refine wl_off (d := 64) H169 rfl rfl rfl rfl rfl rfl fun a53 H170 => ?_
        clear H169 a52
        refine wl_on (d := 60) H170 rfl rfl rfl ?_
        refine wl1 H170 (r_pick_f rfl rfl) rfl rfl rfl rfl fun a54 H171 => ?_
        clear H170 a53
        refine wl1 H171 (r_pick_f rfl rfl) rfl rfl rfl rfl fun a55 H172 => ?_
        clear H171 a54
        refine wl1 H172 (r_move rfl) rfl rfl rfl rfl fun a56 H173 => ?_
        clear H172 a55
        refine wl_on (d := 76) H173 rfl rfl rfl ?_
        refine wl1 H173 (r_fld fld37_1 rfl) rfl rfl rfl rfl fun a57 H174 => ?_
        clear H173 a56
        refine wl_on (d := 76) H174 rfl rfl rfl ?_
        refine wl1 H174 (r_load sc31 rfl (hB11.cell rfl)) rfl rfl rfl rfl fun a58 H175 => ?_
        clear H174 a57
        refine wl_on (d := 76) H175 rfl rfl rfl ?_
        refine wl1 H175 (r_eql rfl rfl) rfl rfl rfl rfl fun a59 H176 => ?_
        clear H175 a58
        refine wl_on (d := 76) H176 rfl rfl rfl ?_
        refine wl1 H176 (r_move rfl) rfl rfl rfl rfl fun a60 H177 => ?_
        clear H176 a59
        refine wl_split (t := 80) H177 rfl (fun hg16_27 H178 => ?_) (fun hg16_27 H178 => ?_)
        ·
          clear H177
          try simp only [decide_eq_true_eq, decide_eq_false_iff_not, Bool.or_eq_true, Bool.and_eq_true, Bool.or_eq_false_iff, Bool.and_eq_false_iff, Bool.not_eq_true', Bool.not_eq_false', Int.not_lt, Int.not_le, ne_eq, Decidable.not_not] at hg16_27
          refine wl_on (d := 80) H178 rfl rfl rfl ?_
          refine wl1 H178 (r_fld fld37_0 rfl) rfl rfl rfl rfl fun a61 H179 => ?_
          clear H178 a60
          refine wl_on (d := 80) H179 rfl rfl rfl ?_
          refine wl1 H179 (r_load sc22 rfl (hB11.cell rfl)) rfl rfl rfl rfl fun a62 H180 => ?_
          clear H179 a61
          refine wl_on (d := 80) H180 rfl rfl rfl ?_
          refine wl1 H180 (r_len Try.underlying22 rfl) rfl rfl rfl rfl fun a63 H181 => ?_
          clear H180 a62
          refine wl_on (d := 80) H181 rfl rfl rfl ?_
          refine wl1 H181 (r_move rfl) rfl rfl rfl rfl fun a64 H182 => ?_
          clear H181 a63
          refine wl_on (d := 80) H182 rfl rfl rfl ?_
          first | refine wl1 H182 (r_addk rfl rfl (by simp only [InK]; omega)) rfl rfl rfl rfl fun a65 H183 => ?_ | refine wl1 H182 (r_add rfl rfl) rfl rfl rfl rfl fun a65 H183 => ?_
          clear H182 a64
          refine wl_on (d := 80) H183 rfl rfl rfl ?_
          refine wl1 H183 (r_move rfl) rfl rfl rfl rfl fun a66 H184 => ?_
          clear H183 a65
          refine wl_on (d := 80) H184 rfl rfl rfl ?_
          refine wl1 H184 (r_remk rfl rfl (by omega) (by omega)) rfl rfl rfl rfl fun a67 H185 => ?_
          clear H184 a66
          rw [hn0] at H185
          refine wl_on (d := 80) H185 rfl rfl rfl ?_
          first | refine wl1 H185 (r_convk Try.underlying24 Try.underlying3 rfl (by simp only [InK]; omega)) rfl rfl rfl rfl fun a68 H186 => ?_ | refine wl1 H185 (r_conv Try.underlying24 Try.underlying3 rfl) rfl rfl rfl rfl fun a68 H186 => ?_
          clear H185 a67
          refine wl_on (d := 80) H186 rfl rfl rfl ?_
          first | refine wl1 H186 (r_mulk rfl rfl (by simp only [InK]; omega)) rfl rfl rfl rfl fun a69 H187 => ?_ | refine wl1 H186 (r_mul rfl rfl) rfl rfl rfl rfl fun a69 H187 => ?_
          clear H186 a68
          refine wl_on (d := 80) H187 rfl rfl rfl ?_
          first | refine wl1 H187 (r_addk rfl rfl (by simp only [InK]; omega)) rfl rfl rfl rfl fun a70 H188 => ?_ | refine wl1 H187 (r_add rfl rfl) rfl rfl rfl rfl fun a70 H188 => ?_
          clear H187 a69
          refine wl_on (d := 80) H188 rfl rfl rfl ?_
          refine wl1 H188 (r_neq rfl rfl) rfl rfl rfl rfl fun a71 H189 => ?_
          clear H188 a70
          replace H189 := H189.known (t := 91) (b := false) rfl (by by_cases h : 256 < n0 <;> simp [h] at hg16_27 hpl ⊢; omega)
          refine wl_on (d := 76) H189 rfl rfl rfl ?_
          refine wl1 H189 (r_pick_t rfl rfl) rfl rfl rfl rfl fun a72 H190 => ?_
          clear H189 a71
          refine wl1 H190 (r_pick_f rfl rfl) rfl rfl rfl rfl fun a73 H191 => ?_
          clear H190 a72
          refine wl_end ?_
          refine th_n ?_
          refine w_ff H191 rfl rfl ?_
          refine wpIn_skip ?_
          refine th_n ?_
          refine wpIn_seq ?_
          refine w_reg ?_
          refine wl1 H191 (r_fld fld34_2 rfl) rfl rfl rfl rfl fun a74 H192 => ?_
          clear H191 a73
          refine wl1 H192 (r_load sc31 rfl (hB10.cell rfl)) rfl rfl rfl rfl fun a75 H193 => ?_
          clear H192 a74
          refine wl1 H193 (r_eql rfl rfl) rfl rfl rfl rfl fun a76 H194 => ?_
          clear H193 a75
          replace H194 := H194.known (t := 96) (b := true) rfl (by simp)
          refine wl1 H194 (r_move rfl) rfl rfl rfl rfl fun a77 H195 => ?_
          clear H194 a76
          refine wl_on (d := 97) H195 rfl rfl rfl ?_
          refine wl1 H195 (r_fld fld34_1 rfl) rfl rfl rfl rfl fun a78 H196 => ?_
          clear H195 a77
          refine wl_on (d := 97) H196 rfl rfl rfl ?_
          refine wl1 H196 (r_load sc22 rfl (hB10.cell rfl)) rfl rfl rfl rfl fun a79 H197 => ?_
          clear H196 a78
          refine wl_on (d := 97) H197 rfl rfl rfl ?_
          refine wl1 H197 (r_len Try.underlying22 rfl) rfl rfl rfl rfl fun a80 H198 => ?_
          clear H197 a79
          refine wl_on (d := 97) H198 rfl rfl rfl ?_
          refine wl1 H198 (r_eql rfl rfl) rfl rfl rfl rfl fun a81 H199 => ?_
          clear H198 a80
          replace H199 := H199.known (t := 101) (b := true) rfl (by simp)
          refine wl1 H199 (r_pick_t rfl rfl) rfl rfl rfl rfl fun a82 H200 => ?_
          clear H199 a81
          refine wl1 H200 (r_move rfl) rfl rfl rfl rfl fun a83 H201 => ?_
          clear H200 a82
          refine wl_on (d := 103) H201 rfl rfl rfl ?_
          refine wl1 H201 (r_fld fld34_0 rfl) rfl rfl rfl rfl fun a84 H202 => ?_
          clear H201 a83
          refine wl_on (d := 103) H202 rfl rfl rfl ?_
          refine wl1 H202 (r_load sc23 rfl (hB10.cell rfl)) rfl rfl rfl rfl fun a85 H203 => ?_
          clear H202 a84
          refine wl_on (d := 103) H203 rfl rfl rfl ?_
          refine wl1 H203 (r_move rfl) rfl rfl rfl rfl fun a86 H204 => ?_
          clear H203 a85
          refine wl_on (d := 103) H204 rfl rfl rfl ?_
          refine wlc  H204 rfl rfl hb16 rfl (rrecords hN.sat hE3 hA) fun v w19 hR a87 H205 => ?_
          clear H204 a86
          obtain ⟨rfl, gw19⟩ := hR
          have hN := hN.ofGr gw19
          replace hB10 := hB10.gr gw19
          replace hB11 := hB11.gr gw19
          replace H205 := H205.known (t := 107) (b := true) rfl (by simp)
          refine wl1 H205 (r_pick_t rfl rfl) rfl rfl rfl rfl fun a88 H206 => ?_
          clear H205 a87
          refine wl1 H206 (r_move rfl) rfl rfl rfl rfl fun a89 H207 => ?_
          clear H206 a88
          refine wl_on (d := 109) H207 rfl rfl rfl ?_
          refine wl1 H207 (r_move rfl) rfl rfl rfl rfl fun a90 H208 => ?_
          clear H207 a89
          refine wl_on (d := 109) H208 rfl rfl rfl ?_
          refine wlc  H208 rfl rfl hb18 rfl (jwhole hN.sat hE1 hc1 (by omega)) fun v w20 hR a91 H209 => ?_
          clear H208 a90
          obtain ⟨rfl, gw20⟩ := hR
          have hN := hN.ofGr gw20
          replace hB10 := hB10.gr gw20
          replace hB11 := hB11.gr gw20
          simp only [hjj] at H209
          refine wl_on (d := 109) H209 rfl rfl rfl ?_
          refine wl1 H209 (r_move rfl) rfl rfl rfl rfl fun a92 H210 => ?_
          clear H209 a91
          refine wl_on (d := 109) H210 rfl rfl rfl ?_
          refine wlc  H210 rfl rfl hb17 rfl (rsame8 hN.sat hE1 hE1) fun v w21 hR a93 H211 => ?_
          clear H210 a92
          obtain ⟨rfl, gw21⟩ := hR
          have hN := hN.ofGr gw21
          replace hB10 := hB10.gr gw21
          replace hB11 := hB11.gr gw21
          replace H211 := H211.known (t := 113) (b := true) rfl (by simp)
          refine wl1 H211 (r_pick_t rfl rfl) rfl rfl rfl rfl fun a94 H212 => ?_
          clear H211 a93
          refine wl1 H212 (r_move rfl) rfl rfl rfl rfl fun a95 H213 => ?_
          clear H212 a94
          refine wl_on (d := 115) H213 rfl rfl rfl ?_
          refine wl1 H213 (r_move rfl) rfl rfl rfl rfl fun a96 H214 => ?_
          clear H213 a95
          refine wl1 H214 (r_pick_t rfl rfl) rfl rfl rfl rfl fun a97 H215 => ?_
          clear H214 a96
          refine wl1 H215 (r_assign rfl) rfl rfl rfl rfl fun a98 H216 => ?_
          clear H215 a97
          refine wl_end ?_
          refine th_n ?_
          refine wpIn_ret ?_
          refine fin_r H216 (res1 rfl H216 rfl) ?_
          exact ⟨rfl, hN.gr⟩
        ·
          clear H177
          try simp only [decide_eq_true_eq, decide_eq_false_iff_not, Bool.or_eq_true, Bool.and_eq_true, Bool.or_eq_false_iff, Bool.and_eq_false_iff, Bool.not_eq_true', Bool.not_eq_false', Int.not_lt, Int.not_le, ne_eq, Decidable.not_not] at hg16_27
          refine wl_off (d := 80) H178 rfl rfl rfl rfl rfl rfl fun a61 H217 => ?_
          clear H178 a60
          refine wl_off (d := 80) H217 rfl rfl rfl rfl rfl rfl fun a62 H218 => ?_
          clear H217 a61
          refine wl_off (d := 80) H218 rfl rfl rfl rfl rfl rfl fun a63 H219 => ?_
          clear H218 a62
          refine wl_off (d := 80) H219 rfl rfl rfl rfl rfl rfl fun a64 H220 => ?_
          clear H219 a63
          refine wl_off (d := 80) H220 rfl rfl rfl rfl rfl rfl fun a65 H221 => ?_
          clear H220 a64
          refine wl_off (d := 80) H221 rfl rfl rfl rfl rfl rfl fun a66 H222 => ?_
          clear H221 a65
          refine wl_off (d := 80) H222 rfl rfl rfl rfl rfl rfl fun a67 H223 => ?_
          clear H222 a66
          refine wl_off (d := 80) H223 rfl rfl rfl rfl rfl rfl fun a68 H224 => ?_
          clear H223 a67
          refine wl_off (d := 80) H224 rfl rfl rfl rfl rfl rfl fun a69 H225 => ?_
          clear H224 a68
          refine wl_off (d := 80) H225 rfl rfl rfl rfl rfl rfl fun a70 H226 => ?_
          clear H225 a69
          refine wl_off (d := 80) H226 rfl rfl rfl rfl rfl rfl fun a71 H227 => ?_
          clear H226 a70
          refine wl_on (d := 76) H227 rfl rfl rfl ?_
          refine wl1 H227 (r_pick_f rfl rfl) rfl rfl rfl rfl fun a72 H228 => ?_
          clear H227 a71
          refine wl1 H228 (r_pick_f rfl rfl) rfl rfl rfl rfl fun a73 H229 => ?_
          clear H228 a72
          refine wl_end ?_
          refine th_n ?_
          refine w_ff H229 rfl rfl ?_
          refine wpIn_skip ?_
          refine th_n ?_
          refine wpIn_seq ?_
          refine w_reg ?_
          refine wl1 H229 (r_fld fld34_2 rfl) rfl rfl rfl rfl fun a74 H230 => ?_
          clear H229 a73
          refine wl1 H230 (r_load sc31 rfl (hB10.cell rfl)) rfl rfl rfl rfl fun a75 H231 => ?_
          clear H230 a74
          refine wl1 H231 (r_eql rfl rfl) rfl rfl rfl rfl fun a76 H232 => ?_
          clear H231 a75
          replace H232 := H232.known (t := 96) (b := true) rfl (by simp)
          refine wl1 H232 (r_move rfl) rfl rfl rfl rfl fun a77 H233 => ?_
          clear H232 a76
          refine wl_on (d := 97) H233 rfl rfl rfl ?_
          refine wl1 H233 (r_fld fld34_1 rfl) rfl rfl rfl rfl fun a78 H234 => ?_
          clear H233 a77
          refine wl_on (d := 97) H234 rfl rfl rfl ?_
          refine wl1 H234 (r_load sc22 rfl (hB10.cell rfl)) rfl rfl rfl rfl fun a79 H235 => ?_
          clear H234 a78
          refine wl_on (d := 97) H235 rfl rfl rfl ?_
          refine wl1 H235 (r_len Try.underlying22 rfl) rfl rfl rfl rfl fun a80 H236 => ?_
          clear H235 a79
          refine wl_on (d := 97) H236 rfl rfl rfl ?_
          refine wl1 H236 (r_eql rfl rfl) rfl rfl rfl rfl fun a81 H237 => ?_
          clear H236 a80
          replace H237 := H237.known (t := 101) (b := true) rfl (by simp)
          refine wl1 H237 (r_pick_t rfl rfl) rfl rfl rfl rfl fun a82 H238 => ?_
          clear H237 a81
          refine wl1 H238 (r_move rfl) rfl rfl rfl rfl fun a83 H239 => ?_
          clear H238 a82
          refine wl_on (d := 103) H239 rfl rfl rfl ?_
          refine wl1 H239 (r_fld fld34_0 rfl) rfl rfl rfl rfl fun a84 H240 => ?_
          clear H239 a83
          refine wl_on (d := 103) H240 rfl rfl rfl ?_
          refine wl1 H240 (r_load sc23 rfl (hB10.cell rfl)) rfl rfl rfl rfl fun a85 H241 => ?_
          clear H240 a84
          refine wl_on (d := 103) H241 rfl rfl rfl ?_
          refine wl1 H241 (r_move rfl) rfl rfl rfl rfl fun a86 H242 => ?_
          clear H241 a85
          refine wl_on (d := 103) H242 rfl rfl rfl ?_
          refine wlc  H242 rfl rfl hb16 rfl (rrecords hN.sat hE3 hA) fun v w22 hR a87 H243 => ?_
          clear H242 a86
          obtain ⟨rfl, gw22⟩ := hR
          have hN := hN.ofGr gw22
          replace hB10 := hB10.gr gw22
          replace hB11 := hB11.gr gw22
          replace H243 := H243.known (t := 107) (b := true) rfl (by simp)
          refine wl1 H243 (r_pick_t rfl rfl) rfl rfl rfl rfl fun a88 H244 => ?_
          clear H243 a87
          refine wl1 H244 (r_move rfl) rfl rfl rfl rfl fun a89 H245 => ?_
          clear H244 a88
          refine wl_on (d := 109) H245 rfl rfl rfl ?_
          refine wl1 H245 (r_move rfl) rfl rfl rfl rfl fun a90 H246 => ?_
          clear H245 a89
          refine wl_on (d := 109) H246 rfl rfl rfl ?_
          refine wlc  H246 rfl rfl hb18 rfl (jwhole hN.sat hE1 hc1 (by omega)) fun v w23 hR a91 H247 => ?_
          clear H246 a90
          obtain ⟨rfl, gw23⟩ := hR
          have hN := hN.ofGr gw23
          replace hB10 := hB10.gr gw23
          replace hB11 := hB11.gr gw23
          simp only [hjj] at H247
          refine wl_on (d := 109) H247 rfl rfl rfl ?_
          refine wl1 H247 (r_move rfl) rfl rfl rfl rfl fun a92 H248 => ?_
          clear H247 a91
          refine wl_on (d := 109) H248 rfl rfl rfl ?_
          refine wlc  H248 rfl rfl hb17 rfl (rsame8 hN.sat hE1 hE1) fun v w24 hR a93 H249 => ?_
          clear H248 a92
          obtain ⟨rfl, gw24⟩ := hR
          have hN := hN.ofGr gw24
          replace hB10 := hB10.gr gw24
          replace hB11 := hB11.gr gw24
          replace H249 := H249.known (t := 113) (b := true) rfl (by simp)
          refine wl1 H249 (r_pick_t rfl rfl) rfl rfl rfl rfl fun a94 H250 => ?_
          clear H249 a93
          refine wl1 H250 (r_move rfl) rfl rfl rfl rfl fun a95 H251 => ?_
          clear H250 a94
          refine wl_on (d := 115) H251 rfl rfl rfl ?_
          refine wl1 H251 (r_move rfl) rfl rfl rfl rfl fun a96 H252 => ?_
          clear H251 a95
          refine wl1 H252 (r_pick_t rfl rfl) rfl rfl rfl rfl fun a97 H253 => ?_
          clear H252 a96
          refine wl1 H253 (r_assign rfl) rfl rfl rfl rfl fun a98 H254 => ?_
          clear H253 a97
          refine wl_end ?_
          refine th_n ?_
          refine wpIn_ret ?_
          refine fin_r H254 (res1 rfl H254 rfl) ?_
          exact ⟨rfl, hN.gr⟩
end Go.Proofs.Yteinlgobadlgnaa
