/- TransportMonotone, walked. -/
import Derived.Test.YtjjpaghloaggeaaTrI
import Derived.Test.YtjjpaghloaggeaaTrM
set_option linter.unusedVariables false
set_option linter.unusedSimpArgs false
namespace Go.Proofs.Ytjjpaghloaggeaa
open Go.RowKit


theorem fact_on {A B : Prop} {x : Value} (f : (A → B) ∧ (¬ A → x = undef)) (h : x = .bool true) : B := by
  by_cases ha : A
  · exact f.1 ha
  · have := (f.2 ha).symm.trans h
    simp [undef] at this

set_option maxRecDepth 100000 in
set_option maxHeartbeats 8000000 in
theorem monotone_walk {key : Int} {bs : List Int} {F : Option Addr} {cf : Nat} {p : Pk} {D : Option Addr} {cd : Nat} {I : Im} {w : World} (hS : Sat I w) (hkey : InK .u64 key) (hb : Els (kInt .u8) I F bs) (hbc : bs.length ≤ cf) (hP : PkAt I p D cd) :
    Ret Try.prog 8 [.int .u64 key, .slice F bs.length cf, .agg #[.int .i64 p.seq, .int .i64 p.ack, .slice D p.data.length cd, .int .u64 p.chk]] w (fun v w' => v = .bool true ∧ Gr w w') := by
  obtain ⟨y, hyd⟩ : ∃ y, y = glink key bs := ⟨_, rfl⟩
  have hv : LkV y := hyd ▸ glink_valid (els_ink hb) key
  have hval : lvalid y = true := (lvalid_iff y).2 hv
  refine ret_of (N := 147) Try.func8 rfl rfl rfl fun a0 H0 => ?_
  have hN := New.refl hS
  simp only [argsEnv, Nat.zero_add, Nat.reduceAdd] at H0
  refine wpIn_seq ?_
  refine w_reg ?_
  refine s_box H0 rfl rfl hN fun w1 b5 hN gw1 hB5 hgeb5 heb5 a1 H1 => ?_
  clear H0 a0
  replace hB5 : Box _ _ _ [_, _, _, _] 28 := hB5
  refine wl1 H1 (r_assign rfl) rfl rfl rfl rfl fun a2 H2 => ?_
  clear H1 a1
  refine wl_end ?_
  refine th_n ?_
  refine wpIn_seq ?_
  refine w_reg ?_
  refine wlc  H2 rfl rfl hb10 rfl (lexamples hN.sat) fun v w2 hR a3 H3 => ?_
  clear H2 a2
  obtain ⟨rfl, gw2⟩ := hR
  have hN := hN.ofGr gw2
  replace hB5 := hB5.gr gw2
  replace H3 := H3.known (t := 12) (b := true) rfl rfl
  refine wl1 H3 (r_assign rfl) rfl rfl rfl rfl fun a4 H4 => ?_
  clear H3 a3
  refine wl_end ?_
  refine th_n ?_
  refine wpIn_seq ?_
  refine wpIn_seq ?_
  refine w_reg ?_
  refine wl1 H4 (r_move rfl) rfl rfl rfl rfl fun a5 H5 => ?_
  clear H4 a4
  refine wl1 H5 (r_not rfl) rfl rfl rfl rfl fun a6 H6 => ?_
  clear H5 a5
  replace H6 := H6.known (t := 14) (b := false) rfl rfl
  refine wl1 H6 (r_move rfl) rfl rfl rfl rfl fun a7 H7 => ?_
  clear H6 a6
  refine wl_on (d := 15) H7 rfl rfl rfl ?_
  refine wl1 H7 (r_fld fld28_2 rfl) rfl rfl rfl rfl fun a8 H8 => ?_
  clear H7 a7
  refine wl_on (d := 15) H8 rfl rfl rfl ?_
  refine wl1 H8 (r_load sc23 rfl (hB5.cell rfl)) rfl rfl rfl rfl fun a9 H9 => ?_
  clear H8 a8
  refine wl_on (d := 15) H9 rfl rfl rfl ?_
  refine wl1 H9 (r_len Try.underlying23 rfl) rfl rfl rfl rfl fun a10 H10 => ?_
  clear H9 a9
  refine wl_on (d := 15) H10 rfl rfl rfl ?_
  refine wl1 H10 (r_gtr rfl rfl) rfl rfl rfl rfl fun a11 H11 => ?_
  clear H10 a10
  refine wl1 H11 (r_pick_f rfl rfl) rfl rfl rfl rfl fun a12 H12 => ?_
  clear H11 a11
  refine wl_end ?_
  refine th_n ?_
  first | refine w_if H12 rfl (fun hc20 => ?_) (fun hc20 => ?_) | refine w_cond H12 rfl (fun hc20 => ?_) (fun hc20 => ?_)
  ·
    try simp only [decide_eq_true_eq, decide_eq_false_iff_not, Bool.or_eq_true, Bool.and_eq_true, Bool.or_eq_false_iff, Bool.and_eq_false_iff, Bool.not_eq_true', Bool.not_eq_false', Int.not_lt, Int.not_le, ne_eq, Decidable.not_not] at hc20
    refine wpIn_seq ?_
    refine w_reg ?_
    refine wl1 H12 (r_move rfl) rfl rfl rfl rfl fun a13 H13 => ?_
    clear H12 a12
    refine wl1 H13 (r_assign rfl) rfl rfl rfl rfl fun a14 H14 => ?_
    clear H13 a13
    refine wl_end ?_
    refine th_n ?_
    refine wpIn_ret ?_
    refine th_r ?_
    refine fin_r H14 (res1 rfl H14 rfl) ?_
    exact ⟨by first | rfl | (simp [hno.1, hno.2]; done) | (rcases Nat.eq_zero_or_pos m with h | h; simp [h]; simp [(hin3 (by omega)).1]), hN.gr⟩
  ·
    try simp only [decide_eq_true_eq, decide_eq_false_iff_not, Bool.or_eq_true, Bool.and_eq_true, Bool.or_eq_false_iff, Bool.and_eq_false_iff, Bool.not_eq_true', Bool.not_eq_false', Int.not_lt, Int.not_le, ne_eq, Decidable.not_not] at hc20
    have hpl : p.data.length ≤ 300 := by omega
    refine wpIn_skip ?_
    refine th_n ?_
    refine wpIn_seq ?_
    refine w_reg ?_
    refine wl1 H12 (r_move rfl) rfl rfl rfl rfl fun a13 H15 => ?_
    clear H12 a12
    refine wl1 H15 (r_move rfl) rfl rfl rfl rfl fun a14 H16 => ?_
    clear H15 a13
    refine wlc  H16 rfl rfl hb12 rfl ((by have h := rlink_ret (key := key) hN.sat hkey hb hbc; rw [← hyd] at h; exact h)) fun v w3 hR a15 H17 => ?_
    clear H16 a14
    obtain ⟨J3, nw3, ⟨A3, c3, A4, c4, rfl, hy⟩⟩ := hR
    replace hb := hb.up nw3.le
    replace hP := hP.up nw3.le
    replace hB5 := hB5.next nw3
    have hN := hN.trans nw3
    refine s_alloc H17 zv26 rfl hN fun w4 b8 hN gw4 hB8 hgeb8 heb8 a16 H18 => ?_
    clear H17 a15
    replace hB8 : Box _ _ _ [.int .u64 0, .slice none 0 0, .int .i64 0, .slice none 0 0, .int .i64 0] 26 := hB8
    have hne_hB5_b8 := hB5.lt
    rw [← heb8] at hne_hB5_b8
    replace hB5 := hB5.gr gw4
    refine s_storeA (vs := [_, _, _, _, _]) H18 sz26 (by simp) (by simp [Value.oneCell']) rfl rfl hN hB8 (by simp) hgeb8 fun w5 hN hB8 ew5 H19 => ?_
    clear H18
    replace hB5 := hB5.otherE ew5 (by omega)
    simp only [Nat.zero_add, Nat.add_zero, Nat.reduceAdd, Nat.reduceMul, List.set_cons_zero, List.set_cons_succ, spliceL] at hB8
    clear ew5
    refine wl_end ?_
    refine th_n ?_
    refine wpIn_seq ?_
    refine w_reg ?_
    refine wl1 H19 (r_move rfl) rfl rfl rfl rfl fun a17 H20 => ?_
    clear H19 a16
    refine wl1 H20 (r_loadA (cs := [_, _, _, _]) ag28 rfl hB5.agg) rfl rfl rfl rfl fun a18 H21 => ?_
    clear H20 a17
    refine wlc  H21 rfl rfl hb17 rfl (rtag50 hN.sat hP (by omega)) fun v w6 hR a19 H22 => ?_
    clear H21 a18
    obtain ⟨rfl, gw6⟩ := hR
    have hN := hN.ofGr gw6
    replace hB5 := hB5.gr gw6
    replace hB8 := hB8.gr gw6
    refine wl1 H22 (r_fld fld28_3 rfl) rfl rfl rfl rfl fun a20 H23 => ?_
    clear H22 a19
    refine s_store H23 sz22 rfl rfl rfl hN hB5 (by simp) hgeb5 fun w7 hN hB5 ew7 H24 => ?_
    clear H23
    replace hB8 := hB8.otherE ew7 (by omega)
    simp only [Nat.zero_add, Nat.add_zero, Nat.reduceAdd, Nat.reduceMul, List.set_cons_zero, List.set_cons_succ, spliceL] at hB5
    clear ew7
    obtain ⟨q, hqd⟩ : ∃ q : Pk, q = { p with chk := ptag key p } := ⟨_, rfl⟩
    have hq : PkAt J3 q D cd := hqd ▸ ⟨hP.ks, hP.ka, ptag_inK _ _, hP.dc, hP.de⟩
    replace hB5 : Box J3 w7 b5 [.int .i64 q.seq, .int .i64 q.ack, .slice D q.data.length cd, .int .u64 q.chk] 28 := by rw [hqd]; exact hB5
    have hqs : q.seq = p.seq := by rw [hqd]
    have hqdt : q.data = p.data := by rw [hqd]
    refine wl_end ?_
    refine th_n ?_
    refine wpIn_seq ?_
    refine w_reg ?_
    refine wl1 H24 (r_loadA (cs := [_, _, _, _, _]) ag26 rfl hB8.agg) rfl rfl rfl rfl fun a21 H25 => ?_
    clear H24 a20
    refine wl1 H25 (r_loadA (cs := [_, _, _, _]) ag28 rfl hB5.agg) rfl rfl rfl rfl fun a22 H26 => ?_
    clear H25 a21
    refine wlc  H26 rfl rfl hb25 rfl (lreceived_ret hN.sat hy hv hq) fun v w8 hR a23 H27 => ?_
    clear H26 a22
    obtain ⟨J8, nw8, ⟨A9, c9, A9', c9', rfl, hy9⟩⟩ := hR
    replace hb := hb.up nw8.le
    replace hP := hP.up nw8.le
    replace hy := hy.up nw8.le
    replace hq := hq.up nw8.le
    replace hB5 := hB5.next nw8
    replace hB8 := hB8.next nw8
    have hN := hN.trans nw8
    refine s_alloc H27 zv48 rfl hN fun w9 b9 hN gw9 hB9 hgeb9 heb9 a24 H28 => ?_
    clear H27 a23
    replace hB9 : Box _ _ _ [.int .u64 0, .slice none 0 0, .int .i64 0, .slice none 0 0, .int .i64 0, .int .i64 0] 48 := hB9
    have hne_hB5_b9 := hB5.lt
    rw [← heb9] at hne_hB5_b9
    have hne_hB8_b9 := hB8.lt
    rw [← heb9] at hne_hB8_b9
    replace hB5 := hB5.gr gw9
    replace hB8 := hB8.gr gw9
    refine s_storeA (vs := [_, _, _, _, _, _]) H28 sz48 (by simp) (by simp [Value.oneCell']) rfl rfl hN hB9 (by simp) hgeb9 fun w10 hN hB9 ew10 H29 => ?_
    clear H28
    replace hB5 := hB5.otherE ew10 (by omega)
    replace hB8 := hB8.otherE ew10 (by omega)
    simp only [Nat.zero_add, Nat.add_zero, Nat.reduceAdd, Nat.reduceMul, List.set_cons_zero, List.set_cons_succ, spliceL] at hB9
    clear ew10
    refine wl_end ?_
    refine th_n ?_
    refine wpIn_seq ?_
    refine wpIn_seq ?_
    refine w_reg ?_
    refine wl1 H29 (r_fld fld48_1 rfl) rfl rfl rfl rfl fun a25 H30 => ?_
    clear H29 a24
    refine wl1 H30 (r_load sc39 rfl (hB9.cell rfl)) rfl rfl rfl rfl fun a26 H31 => ?_
    clear H30 a25
    refine wl1 H31 (r_neq rfl rfl) rfl rfl rfl rfl fun a27 H32 => ?_
    clear H31 a26
    refine wl_end ?_
    refine th_n ?_
    first | refine w_if H32 rfl (fun hc34 => ?_) (fun hc34 => ?_) | refine w_cond H32 rfl (fun hc34 => ?_) (fun hc34 => ?_)
    ·
      try simp only [decide_eq_true_eq, decide_eq_false_iff_not, Bool.or_eq_true, Bool.and_eq_true, Bool.or_eq_false_iff, Bool.and_eq_false_iff, Bool.not_eq_true', Bool.not_eq_false', Int.not_lt, Int.not_le, ne_eq, Decidable.not_not] at hc34
      have hno : lrecE y q = 500 ∧ lrec y q = lk0 := by
        rcases lrecE_or y q with ⟨_, hE0⟩ | ⟨_, hE1, hE2⟩
        · exact absurd hE0 hc34
        · exact ⟨hE1, hE2⟩
      refine wpIn_seq ?_
      refine w_reg ?_
      refine wl1 H32 (r_fld fld48_1 rfl) rfl rfl rfl rfl fun a28 H33 => ?_
      clear H32 a27
      refine wl1 H33 (r_load sc39 rfl (hB9.cell rfl)) rfl rfl rfl rfl fun a29 H34 => ?_
      clear H33 a28
      refine wl1 H34 (r_eql rfl rfl) rfl rfl rfl rfl fun a30 H35 => ?_
      clear H34 a29
      refine wl1 H35 (r_move rfl) rfl rfl rfl rfl fun a31 H36 => ?_
      clear H35 a30
      refine wl_split (t := 38) H36 rfl (fun hg8_3 H37 => ?_) (fun hg8_3 H37 => ?_)
      ·
        clear H36
        try simp only [decide_eq_true_eq, decide_eq_false_iff_not, Bool.or_eq_true, Bool.and_eq_true, Bool.or_eq_false_iff, Bool.and_eq_false_iff, Bool.not_eq_true', Bool.not_eq_false', Int.not_lt, Int.not_le, ne_eq, Decidable.not_not] at hg8_3
        refine wl_on (d := 38) H37 rfl rfl rfl ?_
        refine wl1 H37 (r_fld fld48_0 rfl) rfl rfl rfl rfl fun a32 H38 => ?_
        clear H37 a31
        refine wl_on (d := 38) H38 rfl rfl rfl ?_
        refine wl1 H38 (Box.loadO ag26 rfl hB9 (by simp)) rfl rfl rfl rfl fun a33 H39 => ?_
        clear H38 a32
        refine wl_on (d := 38) H39 rfl rfl rfl ?_
        refine wl1 H39 (r_build (v := .agg #[.int .u64 0, .slice none 0 0, .int .i64 0, .slice none 0 0, .int .i64 0]) rfl (fun w => by kernel_rfl)) rfl rfl rfl rfl fun a34 H40 => ?_
        clear H39 a33
        refine wl_on (d := 38) H40 rfl rfl rfl ?_
        refine wlc  H40 rfl rfl hb14 rfl (by have hz := rsamel (y := lk0) hN.sat hy9 (lkAt0 _); exact hz) fun v w11 hR a35 H41 => ?_
        clear H40 a34
        obtain ⟨rfl, gw11⟩ := hR
        have hN := hN.ofGr gw11
        replace hB5 := hB5.gr gw11
        replace hB8 := hB8.gr gw11
        replace hB9 := hB9.gr gw11
        refine wl1 H41 (r_pick_t rfl rfl) rfl rfl rfl rfl fun a36 H42 => ?_
        clear H41 a35
        refine wl1 H42 (r_move rfl) rfl rfl rfl rfl fun a37 H43 => ?_
        clear H42 a36
        refine wl_split (t := 44) H43 rfl (fun hg8_9 H44 => ?_) (fun hg8_9 H44 => ?_)
        ·
          clear H43
          try simp only [decide_eq_true_eq, decide_eq_false_iff_not, Bool.or_eq_true, Bool.and_eq_true, Bool.or_eq_false_iff, Bool.and_eq_false_iff, Bool.not_eq_true', Bool.not_eq_false', Int.not_lt, Int.not_le, ne_eq, Decidable.not_not] at hg8_9
          refine wl_on (d := 44) H44 rfl rfl rfl ?_
          refine wl1 H44 (r_move rfl) rfl rfl rfl rfl fun a38 H45 => ?_
          clear H44 a37
          refine wl1 H45 (r_pick_t rfl rfl) rfl rfl rfl rfl fun a39 H46 => ?_
          clear H45 a38
          refine wl1 H46 (r_assign rfl) rfl rfl rfl rfl fun a40 H47 => ?_
          clear H46 a39
          refine wl_end ?_
          refine th_n ?_
          refine wpIn_ret ?_
          refine th_r ?_
          refine fin_r H47 (res1 rfl H47 rfl) ?_
          exact ⟨by first | rfl | (simp [hno.1, hno.2]; done) | (rcases Nat.eq_zero_or_pos m with h | h; simp [h]; simp [(hin3 (by omega)).1]), hN.gr⟩
        ·
          clear H43
          try simp only [decide_eq_true_eq, decide_eq_false_iff_not, Bool.or_eq_true, Bool.and_eq_true, Bool.or_eq_false_iff, Bool.and_eq_false_iff, Bool.not_eq_true', Bool.not_eq_false', Int.not_lt, Int.not_le, ne_eq, Decidable.not_not] at hg8_9
          exact absurd hno.2 hg8_9
      ·
        clear H36
        try simp only [decide_eq_true_eq, decide_eq_false_iff_not, Bool.or_eq_true, Bool.and_eq_true, Bool.or_eq_false_iff, Bool.and_eq_false_iff, Bool.not_eq_true', Bool.not_eq_false', Int.not_lt, Int.not_le, ne_eq, Decidable.not_not] at hg8_3
        exact absurd hno.1 hg8_3
    ·
      try simp only [decide_eq_true_eq, decide_eq_false_iff_not, Bool.or_eq_true, Bool.and_eq_true, Bool.or_eq_false_iff, Bool.and_eq_false_iff, Bool.not_eq_true', Bool.not_eq_false', Int.not_lt, Int.not_le, ne_eq, Decidable.not_not] at hc34
      refine wpIn_skip ?_
      refine th_n ?_
      refine wpIn_seq ?_
      refine w_reg ?_
      have hlt5 := hB5.lt
      rcases lrecE_or y q with ⟨hacc, hE0⟩ | ⟨_, hE1, _⟩
      rotate_left
      · exact absurd hE1 (by omega)
      have hM := lrec_M hv hacc
      have hzv := hM.v
      have hzval := (lvalid_iff _).2 hzv
      obtain ⟨z, hzd⟩ : ∃ z, z = lrec y q := ⟨_, rfl⟩
      rw [← hzd] at hM hzv hzval hy9 hB9
      obtain ⟨k, hk⟩ : ∃ k : Nat, z.base - y.base = (k : Int) := ⟨(z.base - y.base).toNat, by have := hM.base; omega⟩
      have hkl : k ≤ y.out.length := by have := hM.base; omega
      have hout : z.out = y.out.drop k := by rw [hM.out, hk]; rfl
      obtain ⟨m, hm, hm1⟩ : ∃ m : Nat, z.rcv - y.rcv = (m : Int) ∧ m ≤ 1 := by
        rcases hM.r with ⟨h, _⟩ | ⟨h, _⟩
        · exact ⟨0, by omega, by omega⟩
        · exact ⟨1, by omega, by omega⟩
      have hinn : z.inn.length = y.inn.length + m ∧ y.inn = z.inn.take y.inn.length ∧ (¬ m = 0 → q.seq = y.rcv ∧ z.inn = y.inn ++ [q.data]) := by
        rcases hM.r with ⟨h, h2, _⟩ | ⟨h, h2, h3, _⟩
        · exact ⟨by rw [h2]; omega, by rw [h2, List.take_length], fun h9 => absurd (by omega) h9⟩
        · exact ⟨by rw [h2]; simp; omega, by rw [h2]; simp, fun _ => ⟨h3, h2⟩⟩
      obtain ⟨hin1, hin2, hin3⟩ := hinn
      have hzl := hzv.i
      have hyl := hv.i
      have hxb := hv.b0
      have hxb1 := hv.b1
      have hzb := hzv.b0
      have hzb1 := hzv.b1
      have hxr := hv.r0
      have hxr1 := hv.r1
      have hzr := hzv.r0
      have hzr1 := hzv.r1
      have hyc := hy.oc
      have hzk := hM.key
      refine wl1 H32 (r_fld fld48_0 rfl) rfl rfl rfl rfl fun a28 H48 => ?_
      clear H32 a27
      refine wl1 H48 (r_fld fld26_2 rfl) rfl rfl rfl rfl fun a29 H49 => ?_
      clear H48 a28
      refine wl1 H49 (r_load sc3 rfl (hB9.cell rfl)) rfl rfl rfl rfl fun a30 H50 => ?_
      clear H49 a29
      refine wl1 H50 (r_fld fld26_2 rfl) rfl rfl rfl rfl fun a31 H51 => ?_
      clear H50 a30
      refine wl1 H51 (r_load sc3 rfl (hB8.cell rfl)) rfl rfl rfl rfl fun a32 H52 => ?_
      clear H51 a31
      first | refine wl1 H52 (r_subk rfl rfl (by simp only [InK]; omega)) rfl rfl rfl rfl fun a33 H53 => ?_ | refine wl1 H52 (r_sub rfl rfl) rfl rfl rfl rfl fun a33 H53 => ?_
      clear H52 a32
      refine wl1 H53 (r_assign rfl) rfl rfl rfl rfl fun a34 H54 => ?_
      clear H53 a33
      rw [hk] at H54
      refine wl_end ?_
      refine th_n ?_
      refine wpIn_seq ?_
      refine w_reg ?_
      refine wl1 H54 (r_fld fld48_0 rfl) rfl rfl rfl rfl fun a35 H55 => ?_
      clear H54 a34
      refine wl1 H55 (r_fld fld26_4 rfl) rfl rfl rfl rfl fun a36 H56 => ?_
      clear H55 a35
      refine wl1 H56 (r_load sc3 rfl (hB9.cell rfl)) rfl rfl rfl rfl fun a37 H57 => ?_
      clear H56 a36
      refine wl1 H57 (r_fld fld26_4 rfl) rfl rfl rfl rfl fun a38 H58 => ?_
      clear H57 a37
      refine wl1 H58 (r_load sc3 rfl (hB8.cell rfl)) rfl rfl rfl rfl fun a39 H59 => ?_
      clear H58 a38
      first | refine wl1 H59 (r_subk rfl rfl (by simp only [InK]; omega)) rfl rfl rfl rfl fun a40 H60 => ?_ | refine wl1 H59 (r_sub rfl rfl) rfl rfl rfl rfl fun a40 H60 => ?_
      clear H59 a39
      refine wl1 H60 (r_assign rfl) rfl rfl rfl rfl fun a41 H61 => ?_
      clear H60 a40
      rw [hm] at H61
      refine wl_end ?_
      refine th_n ?_
      refine wpIn_seq ?_
      refine wpIn_seq ?_
      have hS0 := hN.sat
      have hNsz11 := hN.gr.size
      refine w_drawE (m := 63) (l0 := [(5, _), (6, _), (7, _), (8, _), (9, _), (10, _), (11, _)]) hfol H61 ⟨rfl, rfl, rfl, rfl, rfl, rfl, rfl, trivial⟩ (by kernel_rfl) ?_
      refine ⟨_, false, (fun σ ι w1 hg hd hon => by
          exact OpOK.sub (r := [(5, _), (6, _), (7, _), (8, _), (9, _), (10, _), (11, _)]) ⟨rfl, rfl, rfl, rfl, rfl, rfl, rfl, trivial⟩ (by
            exact OpOK.eq (r_move rfl))
          ), (fun _ _ _ _ _ _ h => h), (FreeR.no _), ?_⟩
      refine ⟨_, false, (fun σ ι w1 hg hd hon => by
          have f0 := hd 0 (by decide) _ rfl
          have e0 : σ 0 = _ := f0.1 trivial
          exact OpOK.sub (r := [(59, _), (5, _), (6, _), (7, _), (8, _), (9, _), (10, _), (11, _)]) ⟨congrArg some e0, rfl, rfl, rfl, rfl, rfl, rfl, rfl, trivial⟩ (by
            exact OpOK.eq (r_lss rfl rfl))
          ), (fun _ _ _ _ _ _ h => h), (FreeR.no _), ?_⟩
      refine ⟨_, false, (fun σ ι w1 hg hd hon => by
          have f1 := hd 1 (by decide) _ rfl
          have e1 : σ 1 = _ := f1.1 trivial
          exact OpOK.sub (r := [(60, _), (5, _), (6, _), (7, _), (8, _), (9, _), (10, _), (11, _)]) ⟨congrArg some e1, rfl, rfl, rfl, rfl, rfl, rfl, rfl, trivial⟩ (by
            exact OpOK.eq (r_move rfl))
          ), (fun _ _ _ _ _ _ h => h), (FreeR.no _), ?_⟩
      refine ⟨_, false, (fun σ ι w1 hg hd hon => by
          have f2 := hd 2 (by decide) _ rfl
          have e2 : σ 2 = _ := f2.1 trivial
          have hgd : σ 2 = .bool false := hon
          have hgb := (f2.1 trivial : σ 2 = _).symm.trans hgd
          simp only [Value.bool.injEq] at hgb
          try simp only [decide_eq_true_eq, decide_eq_false_iff_not, Bool.or_eq_true, Bool.and_eq_true, Bool.or_eq_false_iff, Bool.and_eq_false_iff, Bool.not_eq_true', Bool.not_eq_false', Int.not_lt, Int.not_le, ne_eq, Decidable.not_not] at hgb
          exact OpOK.sub (r := [(5, _), (6, _), (7, _), (8, _), (9, _), (10, _), (11, _)]) ⟨rfl, rfl, rfl, rfl, rfl, rfl, rfl, trivial⟩ (by
            exact OpOK.eq (r_move rfl))
          ), (fun _ _ _ _ _ _ h => h), (FreeR.no _), ?_⟩
      refine ⟨_, false, (fun σ ι w1 hg hd hon => by
          have f2 := hd 2 (by decide) _ rfl
          have e2 : σ 2 = _ := f2.1 trivial
          have hgd : σ 2 = .bool false := hon
          have hgb := (f2.1 trivial : σ 2 = _).symm.trans hgd
          simp only [Value.bool.injEq] at hgb
          try simp only [decide_eq_true_eq, decide_eq_false_iff_not, Bool.or_eq_true, Bool.and_eq_true, Bool.or_eq_false_iff, Bool.and_eq_false_iff, Bool.not_eq_true', Bool.not_eq_false', Int.not_lt, Int.not_le, ne_eq, Decidable.not_not] at hgb
          exact OpOK.sub (r := [(5, _), (6, _), (7, _), (8, _), (9, _), (10, _), (11, _)]) ⟨rfl, rfl, rfl, rfl, rfl, rfl, rfl, trivial⟩ (by
            exact OpOK.eq (r_fld fld26_1 rfl))
          ), (fun _ _ _ _ _ _ h => h), (FreeR.no _), ?_⟩
      refine ⟨_, false, (fun σ ι w1 hg hd hon => by
          have hN := hN.ofGr ((Gr.refl _).drew.trans hg)
          have hB5 := hB5.gr ((Gr.refl _).drew.trans hg)
          have hB8 := hB8.gr ((Gr.refl _).drew.trans hg)
          have hB9 := hB9.gr ((Gr.refl _).drew.trans hg)
          have f4 := hd 4 (by decide) _ rfl
          have f2 := hd 2 (by decide) _ rfl
          have e4 : σ 4 = _ := f4.1 hon
          have e2 : σ 2 = _ := f2.1 trivial
          have hgd : σ 2 = .bool false := hon
          have hgb := (f2.1 trivial : σ 2 = _).symm.trans hgd
          simp only [Value.bool.injEq] at hgb
          try simp only [decide_eq_true_eq, decide_eq_false_iff_not, Bool.or_eq_true, Bool.and_eq_true, Bool.or_eq_false_iff, Bool.and_eq_false_iff, Bool.not_eq_true', Bool.not_eq_false', Int.not_lt, Int.not_le, ne_eq, Decidable.not_not] at hgb
          exact OpOK.sub (r := [(63, _), (5, _), (6, _), (7, _), (8, _), (9, _), (10, _), (11, _)]) ⟨congrArg some e4, rfl, rfl, rfl, rfl, rfl, rfl, rfl, trivial⟩ (by
            exact OpOK.eq (r_load sc24 rfl (hB8.cell rfl)))
          ), (fun _ _ _ _ _ _ h => h), (FreeR.no _), ?_⟩
      refine ⟨_, false, (fun σ ι w1 hg hd hon => by
          have f5 := hd 5 (by decide) _ rfl
          have f2 := hd 2 (by decide) _ rfl
          have e5 : σ 5 = _ := f5.1 hon
          have e2 : σ 2 = _ := f2.1 trivial
          have hgd : σ 2 = .bool false := hon
          have hgb := (f2.1 trivial : σ 2 = _).symm.trans hgd
          simp only [Value.bool.injEq] at hgb
          try simp only [decide_eq_true_eq, decide_eq_false_iff_not, Bool.or_eq_true, Bool.and_eq_true, Bool.or_eq_false_iff, Bool.and_eq_false_iff, Bool.not_eq_true', Bool.not_eq_false', Int.not_lt, Int.not_le, ne_eq, Decidable.not_not] at hgb
          exact OpOK.sub (r := [(64, _), (5, _), (6, _), (7, _), (8, _), (9, _), (10, _), (11, _)]) ⟨congrArg some e5, rfl, rfl, rfl, rfl, rfl, rfl, rfl, trivial⟩ (by
            exact OpOK.eq (r_len Try.underlying24 rfl))
          ), (fun _ _ _ _ _ _ h => h), (FreeR.no _), ?_⟩
      refine ⟨_, false, (fun σ ι w1 hg hd hon => by
          have f3 := hd 3 (by decide) _ rfl
          have f6 := hd 6 (by decide) _ rfl
          have f2 := hd 2 (by decide) _ rfl
          have e3 : σ 3 = _ := f3.1 hon
          have e6 : σ 6 = _ := f6.1 hon
          have e2 : σ 2 = _ := f2.1 trivial
          have hgd : σ 2 = .bool false := hon
          have hgb := (f2.1 trivial : σ 2 = _).symm.trans hgd
          simp only [Value.bool.injEq] at hgb
          try simp only [decide_eq_true_eq, decide_eq_false_iff_not, Bool.or_eq_true, Bool.and_eq_true, Bool.or_eq_false_iff, Bool.and_eq_false_iff, Bool.not_eq_true', Bool.not_eq_false', Int.not_lt, Int.not_le, ne_eq, Decidable.not_not] at hgb
          exact OpOK.sub (r := [(62, _), (65, _), (5, _), (6, _), (7, _), (8, _), (9, _), (10, _), (11, _)]) ⟨congrArg some e3, congrArg some e6, rfl, rfl, rfl, rfl, rfl, rfl, rfl, trivial⟩ (by
            exact OpOK.eq (r_gtr rfl rfl))
          ), (fun _ _ _ _ _ _ h => h), (FreeR.no _), ?_⟩
      refine ⟨_, false, (fun σ ι w1 hg hd hon => by
          have f2 := hd 2 (by decide) _ rfl
          have f7 := hd 7 (by decide) _ rfl
          have e2 : σ 2 = _ := f2.1 trivial
          have ec : σ 2 = _ := f2.1 trivial
          exact OpOK.id (by refine OpOK.or (dc := 61) (dy := 66) (kc := σ 2) (ky := σ 7) ?_ ?_ ec (fun hb => f7.1 (by show σ 2 = _; rw [ec]; exact congrArg Value.bool hb)) <;> rfl)
          ), (fun _ _ _ _ _ _ h => h), (FreeR.no _), ?_⟩
      refine ⟨_, false, (fun σ ι w1 hg hd hon => by
          have f8 := hd 8 (by decide) _ rfl
          have e8 : σ 8 = _ := f8.1 trivial
          exact OpOK.sub (r := [(67, _), (5, _), (6, _), (7, _), (8, _), (9, _), (10, _), (11, _)]) ⟨congrArg some e8, rfl, rfl, rfl, rfl, rfl, rfl, rfl, trivial⟩ (by
            exact OpOK.eq (r_move rfl))
          ), (fun _ _ _ _ _ _ h => h), (FreeR.no _), ?_⟩
      refine ⟨_, false, (fun σ ι w1 hg hd hon => by
          have f9 := hd 9 (by decide) _ rfl
          have e9 : σ 9 = _ := f9.1 trivial
          have hgd : σ 9 = .bool false := hon
          have hgb := (f9.1 trivial : σ 9 = _).symm.trans hgd
          simp only [Value.bool.injEq] at hgb
          try simp only [decide_eq_true_eq, decide_eq_false_iff_not, Bool.or_eq_true, Bool.and_eq_true, Bool.or_eq_false_iff, Bool.and_eq_false_iff, Bool.not_eq_true', Bool.not_eq_false', Int.not_lt, Int.not_le, ne_eq, Decidable.not_not] at hgb
          exact OpOK.sub (r := [(5, _), (6, _), (7, _), (8, _), (9, _), (10, _), (11, _)]) ⟨rfl, rfl, rfl, rfl, rfl, rfl, rfl, trivial⟩ (by
            exact OpOK.eq (r_move rfl))
          ), (fun _ _ _ _ _ _ h => h), (FreeR.no _), ?_⟩
      refine ⟨_, false, (fun σ ι w1 hg hd hon => by
          have f10 := hd 10 (by decide) _ rfl
          have f9 := hd 9 (by decide) _ rfl
          have e10 : σ 10 = _ := f10.1 hon
          have e9 : σ 9 = _ := f9.1 trivial
          have hgd : σ 9 = .bool false := hon
          have hgb := (f9.1 trivial : σ 9 = _).symm.trans hgd
          simp only [Value.bool.injEq] at hgb
          try simp only [decide_eq_true_eq, decide_eq_false_iff_not, Bool.or_eq_true, Bool.and_eq_true, Bool.or_eq_false_iff, Bool.and_eq_false_iff, Bool.not_eq_true', Bool.not_eq_false', Int.not_lt, Int.not_le, ne_eq, Decidable.not_not] at hgb
          exact OpOK.sub (r := [(69, _), (5, _), (6, _), (7, _), (8, _), (9, _), (10, _), (11, _)]) ⟨congrArg some e10, rfl, rfl, rfl, rfl, rfl, rfl, rfl, trivial⟩ (by
            exact OpOK.eq (r_lss rfl rfl))
          ), (fun _ _ _ _ _ _ h => h), (FreeR.no _), ?_⟩
      refine ⟨_, false, (fun σ ι w1 hg hd hon => by
          have f9 := hd 9 (by decide) _ rfl
          have f11 := hd 11 (by decide) _ rfl
          have e9 : σ 9 = _ := f9.1 trivial
          have ec : σ 9 = _ := f9.1 trivial
          exact OpOK.id (by refine OpOK.or (dc := 68) (dy := 70) (kc := σ 9) (ky := σ 11) ?_ ?_ ec (fun hb => f11.1 (by show σ 9 = _; rw [ec]; exact congrArg Value.bool hb)) <;> rfl)
          ), (fun _ _ _ _ _ _ h => h), (FreeR.no _), ?_⟩
      refine ⟨_, false, (fun σ ι w1 hg hd hon => by
          have f12 := hd 12 (by decide) _ rfl
          have e12 : σ 12 = _ := f12.1 trivial
          exact OpOK.sub (r := [(71, _), (5, _), (6, _), (7, _), (8, _), (9, _), (10, _), (11, _)]) ⟨congrArg some e12, rfl, rfl, rfl, rfl, rfl, rfl, rfl, trivial⟩ (by
            exact OpOK.eq (r_move rfl))
          ), (fun _ _ _ _ _ _ h => h), (FreeR.no _), ?_⟩
      refine ⟨_, false, (fun σ ι w1 hg hd hon => by
          have f13 := hd 13 (by decide) _ rfl
          have e13 : σ 13 = _ := f13.1 trivial
          have hgd : σ 13 = .bool false := hon
          have hgb := (f13.1 trivial : σ 13 = _).symm.trans hgd
          simp only [Value.bool.injEq] at hgb
          try simp only [decide_eq_true_eq, decide_eq_false_iff_not, Bool.or_eq_true, Bool.and_eq_true, Bool.or_eq_false_iff, Bool.and_eq_false_iff, Bool.not_eq_true', Bool.not_eq_false', Int.not_lt, Int.not_le, ne_eq, Decidable.not_not] at hgb
          exact OpOK.sub (r := [(5, _), (6, _), (7, _), (8, _), (9, _), (10, _), (11, _)]) ⟨rfl, rfl, rfl, rfl, rfl, rfl, rfl, trivial⟩ (by
            exact OpOK.eq (r_move rfl))
          ), (fun _ _ _ _ _ _ h => h), (FreeR.no _), ?_⟩
      refine ⟨_, false, (fun σ ι w1 hg hd hon => by
          have f14 := hd 14 (by decide) _ rfl
          have f13 := hd 13 (by decide) _ rfl
          have e14 : σ 14 = _ := f14.1 hon
          have e13 : σ 13 = _ := f13.1 trivial
          have hgd : σ 13 = .bool false := hon
          have hgb := (f13.1 trivial : σ 13 = _).symm.trans hgd
          simp only [Value.bool.injEq] at hgb
          try simp only [decide_eq_true_eq, decide_eq_false_iff_not, Bool.or_eq_true, Bool.and_eq_true, Bool.or_eq_false_iff, Bool.and_eq_false_iff, Bool.not_eq_true', Bool.not_eq_false', Int.not_lt, Int.not_le, ne_eq, Decidable.not_not] at hgb
          exact OpOK.sub (r := [(73, _), (5, _), (6, _), (7, _), (8, _), (9, _), (10, _), (11, _)]) ⟨congrArg some e14, rfl, rfl, rfl, rfl, rfl, rfl, rfl, trivial⟩ (by
            exact OpOK.eq (r_gtr rfl rfl))
          ), (fun _ _ _ _ _ _ h => h), (FreeR.no _), ?_⟩
      refine ⟨_, false, (fun σ ι w1 hg hd hon => by
          have f13 := hd 13 (by decide) _ rfl
          have f15 := hd 15 (by decide) _ rfl
          have e13 : σ 13 = _ := f13.1 trivial
          have ec : σ 13 = _ := f13.1 trivial
          exact OpOK.id (by refine OpOK.or (dc := 72) (dy := 74) (kc := σ 13) (ky := σ 15) ?_ ?_ ec (fun hb => f15.1 (by show σ 13 = _; rw [ec]; exact congrArg Value.bool hb)) <;> rfl)
          ), (fun _ _ _ _ _ _ h => h), (FreeR.no _), ?_⟩
      refine ⟨_, false, (fun σ ι w1 hg hd hon => by
          have f16 := hd 16 (by decide) _ rfl
          have e16 : σ 16 = _ := f16.1 trivial
          exact OpOK.sub (r := [(75, _), (5, _), (6, _), (7, _), (8, _), (9, _), (10, _), (11, _)]) ⟨congrArg some e16, rfl, rfl, rfl, rfl, rfl, rfl, rfl, trivial⟩ (by
            exact OpOK.eq (r_move rfl))
          ), (fun _ _ _ _ _ _ h => h), (FreeR.no _), ?_⟩
      refine ⟨_, false, (fun σ ι w1 hg hd hon => by
          have f17 := hd 17 (by decide) _ rfl
          have e17 : σ 17 = _ := f17.1 trivial
          have hgd : σ 17 = .bool false := hon
          have hgb := (f17.1 trivial : σ 17 = _).symm.trans hgd
          simp only [Value.bool.injEq] at hgb
          try simp only [decide_eq_true_eq, decide_eq_false_iff_not, Bool.or_eq_true, Bool.and_eq_true, Bool.or_eq_false_iff, Bool.and_eq_false_iff, Bool.not_eq_true', Bool.not_eq_false', Int.not_lt, Int.not_le, ne_eq, Decidable.not_not] at hgb
          exact OpOK.sub (r := [(5, _), (6, _), (7, _), (8, _), (9, _), (10, _), (11, _)]) ⟨rfl, rfl, rfl, rfl, rfl, rfl, rfl, trivial⟩ (by
            exact OpOK.eq (r_fld fld48_0 rfl))
          ), (fun _ _ _ _ _ _ h => h), (FreeR.no _), ?_⟩
      refine ⟨_, false, (fun σ ι w1 hg hd hon => by
          have f18 := hd 18 (by decide) _ rfl
          have f17 := hd 17 (by decide) _ rfl
          have e18 : σ 18 = _ := f18.1 hon
          have e17 : σ 17 = _ := f17.1 trivial
          have hgd : σ 17 = .bool false := hon
          have hgb := (f17.1 trivial : σ 17 = _).symm.trans hgd
          simp only [Value.bool.injEq] at hgb
          try simp only [decide_eq_true_eq, decide_eq_false_iff_not, Bool.or_eq_true, Bool.and_eq_true, Bool.or_eq_false_iff, Bool.and_eq_false_iff, Bool.not_eq_true', Bool.not_eq_false', Int.not_lt, Int.not_le, ne_eq, Decidable.not_not] at hgb
          exact OpOK.sub (r := [(77, _), (5, _), (6, _), (7, _), (8, _), (9, _), (10, _), (11, _)]) ⟨congrArg some e18, rfl, rfl, rfl, rfl, rfl, rfl, rfl, trivial⟩ (by
            exact OpOK.eq (r_fld fld26_0 rfl))
          ), (fun _ _ _ _ _ _ h => h), (FreeR.no _), ?_⟩
      refine ⟨_, false, (fun σ ι w1 hg hd hon => by
          have hN := hN.ofGr ((Gr.refl _).drew.trans hg)
          have hB5 := hB5.gr ((Gr.refl _).drew.trans hg)
          have hB8 := hB8.gr ((Gr.refl _).drew.trans hg)
          have hB9 := hB9.gr ((Gr.refl _).drew.trans hg)
          have f19 := hd 19 (by decide) _ rfl
          have f17 := hd 17 (by decide) _ rfl
          have e19 : σ 19 = _ := f19.1 hon
          have e17 : σ 17 = _ := f17.1 trivial
          have hgd : σ 17 = .bool false := hon
          have hgb := (f17.1 trivial : σ 17 = _).symm.trans hgd
          simp only [Value.bool.injEq] at hgb
          try simp only [decide_eq_true_eq, decide_eq_false_iff_not, Bool.or_eq_true, Bool.and_eq_true, Bool.or_eq_false_iff, Bool.and_eq_false_iff, Bool.not_eq_true', Bool.not_eq_false', Int.not_lt, Int.not_le, ne_eq, Decidable.not_not] at hgb
          exact OpOK.sub (r := [(78, _), (5, _), (6, _), (7, _), (8, _), (9, _), (10, _), (11, _)]) ⟨congrArg some e19, rfl, rfl, rfl, rfl, rfl, rfl, rfl, trivial⟩ (by
            exact OpOK.eq (r_load sc22 rfl (hB9.cell rfl)))
          ), (fun _ _ _ _ _ _ h => h), (FreeR.no _), ?_⟩
      refine ⟨_, false, (fun σ ι w1 hg hd hon => by
          have f17 := hd 17 (by decide) _ rfl
          have e17 : σ 17 = _ := f17.1 trivial
          have hgd : σ 17 = .bool false := hon
          have hgb := (f17.1 trivial : σ 17 = _).symm.trans hgd
          simp only [Value.bool.injEq] at hgb
          try simp only [decide_eq_true_eq, decide_eq_false_iff_not, Bool.or_eq_true, Bool.and_eq_true, Bool.or_eq_false_iff, Bool.and_eq_false_iff, Bool.not_eq_true', Bool.not_eq_false', Int.not_lt, Int.not_le, ne_eq, Decidable.not_not] at hgb
          exact OpOK.sub (r := [(5, _), (6, _), (7, _), (8, _), (9, _), (10, _), (11, _)]) ⟨rfl, rfl, rfl, rfl, rfl, rfl, rfl, trivial⟩ (by
            exact OpOK.eq (r_fld fld26_0 rfl))
          ), (fun _ _ _ _ _ _ h => h), (FreeR.no _), ?_⟩
      refine ⟨_, false, (fun σ ι w1 hg hd hon => by
          have hN := hN.ofGr ((Gr.refl _).drew.trans hg)
          have hB5 := hB5.gr ((Gr.refl _).drew.trans hg)
          have hB8 := hB8.gr ((Gr.refl _).drew.trans hg)
          have hB9 := hB9.gr ((Gr.refl _).drew.trans hg)
          have f21 := hd 21 (by decide) _ rfl
          have f17 := hd 17 (by decide) _ rfl
          have e21 : σ 21 = _ := f21.1 hon
          have e17 : σ 17 = _ := f17.1 trivial
          have hgd : σ 17 = .bool false := hon
          have hgb := (f17.1 trivial : σ 17 = _).symm.trans hgd
          simp only [Value.bool.injEq] at hgb
          try simp only [decide_eq_true_eq, decide_eq_false_iff_not, Bool.or_eq_true, Bool.and_eq_true, Bool.or_eq_false_iff, Bool.and_eq_false_iff, Bool.not_eq_true', Bool.not_eq_false', Int.not_lt, Int.not_le, ne_eq, Decidable.not_not] at hgb
          exact OpOK.sub (r := [(80, _), (5, _), (6, _), (7, _), (8, _), (9, _), (10, _), (11, _)]) ⟨congrArg some e21, rfl, rfl, rfl, rfl, rfl, rfl, rfl, trivial⟩ (by
            exact OpOK.eq (r_load sc22 rfl (hB8.cell rfl)))
          ), (fun _ _ _ _ _ _ h => h), (FreeR.no _), ?_⟩
      refine ⟨_, false, (fun σ ι w1 hg hd hon => by
          have f20 := hd 20 (by decide) _ rfl
          have f22 := hd 22 (by decide) _ rfl
          have f17 := hd 17 (by decide) _ rfl
          have e20 : σ 20 = _ := f20.1 hon
          have e22 : σ 22 = _ := f22.1 hon
          have e17 : σ 17 = _ := f17.1 trivial
          have hgd : σ 17 = .bool false := hon
          have hgb := (f17.1 trivial : σ 17 = _).symm.trans hgd
          simp only [Value.bool.injEq] at hgb
          try simp only [decide_eq_true_eq, decide_eq_false_iff_not, Bool.or_eq_true, Bool.and_eq_true, Bool.or_eq_false_iff, Bool.and_eq_false_iff, Bool.not_eq_true', Bool.not_eq_false', Int.not_lt, Int.not_le, ne_eq, Decidable.not_not] at hgb
          exact OpOK.sub (r := [(79, _), (81, _), (5, _), (6, _), (7, _), (8, _), (9, _), (10, _), (11, _)]) ⟨congrArg some e20, congrArg some e22, rfl, rfl, rfl, rfl, rfl, rfl, rfl, trivial⟩ (by
            exact OpOK.eq (r_neq rfl rfl))
          ), (fun _ _ _ _ _ _ h => h), (FreeR.no _), ?_⟩
      refine ⟨_, false, (fun σ ι w1 hg hd hon => by
          have f17 := hd 17 (by decide) _ rfl
          have f23 := hd 23 (by decide) _ rfl
          have e17 : σ 17 = _ := f17.1 trivial
          have ec : σ 17 = _ := f17.1 trivial
          exact OpOK.id (by refine OpOK.or (dc := 76) (dy := 82) (kc := σ 17) (ky := σ 23) ?_ ?_ ec (fun hb => f23.1 (by show σ 17 = _; rw [ec]; exact congrArg Value.bool hb)) <;> rfl)
          ), (fun _ _ _ _ _ _ h => h), (FreeR.no _), ?_⟩
      refine ⟨_, false, (fun σ ι w1 hg hd hon => by
          have f24 := hd 24 (by decide) _ rfl
          have e24 : σ 24 = _ := f24.1 trivial
          exact OpOK.sub (r := [(83, _), (5, _), (6, _), (7, _), (8, _), (9, _), (10, _), (11, _)]) ⟨congrArg some e24, rfl, rfl, rfl, rfl, rfl, rfl, rfl, trivial⟩ (by
            exact OpOK.eq (r_move rfl))
          ), (fun _ _ _ _ _ _ h => h), (FreeR.no _), ?_⟩
      refine ⟨_, false, (fun σ ι w1 hg hd hon => by
          have f25 := hd 25 (by decide) _ rfl
          have e25 : σ 25 = _ := f25.1 trivial
          have hgd : σ 25 = .bool false := hon
          have hgb := (f25.1 trivial : σ 25 = _).symm.trans hgd
          simp only [Value.bool.injEq] at hgb
          try simp only [decide_eq_true_eq, decide_eq_false_iff_not, Bool.or_eq_true, Bool.and_eq_true, Bool.or_eq_false_iff, Bool.and_eq_false_iff, Bool.not_eq_true', Bool.not_eq_false', Int.not_lt, Int.not_le, ne_eq, Decidable.not_not] at hgb
          exact OpOK.sub (r := [(5, _), (6, _), (7, _), (8, _), (9, _), (10, _), (11, _)]) ⟨rfl, rfl, rfl, rfl, rfl, rfl, rfl, trivial⟩ (by
            exact OpOK.eq (r_fld fld48_0 rfl))
          ), (fun _ _ _ _ _ _ h => h), (FreeR.no _), ?_⟩
      refine ⟨_, false, (fun σ ι w1 hg hd hon => by
          have f26 := hd 26 (by decide) _ rfl
          have f25 := hd 25 (by decide) _ rfl
          have e26 : σ 26 = _ := f26.1 hon
          have e25 : σ 25 = _ := f25.1 trivial
          have hgd : σ 25 = .bool false := hon
          have hgb := (f25.1 trivial : σ 25 = _).symm.trans hgd
          simp only [Value.bool.injEq] at hgb
          try simp only [decide_eq_true_eq, decide_eq_false_iff_not, Bool.or_eq_true, Bool.and_eq_true, Bool.or_eq_false_iff, Bool.and_eq_false_iff, Bool.not_eq_true', Bool.not_eq_false', Int.not_lt, Int.not_le, ne_eq, Decidable.not_not] at hgb
          exact OpOK.sub (r := [(85, _), (5, _), (6, _), (7, _), (8, _), (9, _), (10, _), (11, _)]) ⟨congrArg some e26, rfl, rfl, rfl, rfl, rfl, rfl, rfl, trivial⟩ (by
            exact OpOK.eq (r_fld fld26_1 rfl))
          ), (fun _ _ _ _ _ _ h => h), (FreeR.no _), ?_⟩
      refine ⟨_, false, (fun σ ι w1 hg hd hon => by
          have hN := hN.ofGr ((Gr.refl _).drew.trans hg)
          have hB5 := hB5.gr ((Gr.refl _).drew.trans hg)
          have hB8 := hB8.gr ((Gr.refl _).drew.trans hg)
          have hB9 := hB9.gr ((Gr.refl _).drew.trans hg)
          have f27 := hd 27 (by decide) _ rfl
          have f25 := hd 25 (by decide) _ rfl
          have e27 : σ 27 = _ := f27.1 hon
          have e25 : σ 25 = _ := f25.1 trivial
          have hgd : σ 25 = .bool false := hon
          have hgb := (f25.1 trivial : σ 25 = _).symm.trans hgd
          simp only [Value.bool.injEq] at hgb
          try simp only [decide_eq_true_eq, decide_eq_false_iff_not, Bool.or_eq_true, Bool.and_eq_true, Bool.or_eq_false_iff, Bool.and_eq_false_iff, Bool.not_eq_true', Bool.not_eq_false', Int.not_lt, Int.not_le, ne_eq, Decidable.not_not] at hgb
          exact OpOK.sub (r := [(86, _), (5, _), (6, _), (7, _), (8, _), (9, _), (10, _), (11, _)]) ⟨congrArg some e27, rfl, rfl, rfl, rfl, rfl, rfl, rfl, trivial⟩ (by
            exact OpOK.eq (r_load sc24 rfl (hB9.cell rfl)))
          ), (fun _ _ _ _ _ _ h => h), (FreeR.no _), ?_⟩
      refine ⟨_, false, (fun σ ι w1 hg hd hon => by
          have f25 := hd 25 (by decide) _ rfl
          have e25 : σ 25 = _ := f25.1 trivial
          have hgd : σ 25 = .bool false := hon
          have hgb := (f25.1 trivial : σ 25 = _).symm.trans hgd
          simp only [Value.bool.injEq] at hgb
          try simp only [decide_eq_true_eq, decide_eq_false_iff_not, Bool.or_eq_true, Bool.and_eq_true, Bool.or_eq_false_iff, Bool.and_eq_false_iff, Bool.not_eq_true', Bool.not_eq_false', Int.not_lt, Int.not_le, ne_eq, Decidable.not_not] at hgb
          exact OpOK.sub (r := [(5, _), (6, _), (7, _), (8, _), (9, _), (10, _), (11, _)]) ⟨rfl, rfl, rfl, rfl, rfl, rfl, rfl, trivial⟩ (by
            exact OpOK.eq (r_fld fld26_1 rfl))
          ), (fun _ _ _ _ _ _ h => h), (FreeR.no _), ?_⟩
      refine ⟨_, false, (fun σ ι w1 hg hd hon => by
          have hN := hN.ofGr ((Gr.refl _).drew.trans hg)
          have hB5 := hB5.gr ((Gr.refl _).drew.trans hg)
          have hB8 := hB8.gr ((Gr.refl _).drew.trans hg)
          have hB9 := hB9.gr ((Gr.refl _).drew.trans hg)
          have f29 := hd 29 (by decide) _ rfl
          have f25 := hd 25 (by decide) _ rfl
          have e29 : σ 29 = _ := f29.1 hon
          have e25 : σ 25 = _ := f25.1 trivial
          have hgd : σ 25 = .bool false := hon
          have hgb := (f25.1 trivial : σ 25 = _).symm.trans hgd
          simp only [Value.bool.injEq] at hgb
          try simp only [decide_eq_true_eq, decide_eq_false_iff_not, Bool.or_eq_true, Bool.and_eq_true, Bool.or_eq_false_iff, Bool.and_eq_false_iff, Bool.not_eq_true', Bool.not_eq_false', Int.not_lt, Int.not_le, ne_eq, Decidable.not_not] at hgb
          exact OpOK.sub (r := [(88, _), (5, _), (6, _), (7, _), (8, _), (9, _), (10, _), (11, _)]) ⟨congrArg some e29, rfl, rfl, rfl, rfl, rfl, rfl, rfl, trivial⟩ (by
            exact OpOK.eq (r_load sc24 rfl (hB8.cell rfl)))
          ), (fun _ _ _ _ _ _ h => h), (FreeR.no _), ?_⟩
      refine ⟨_, false, (fun σ ι w1 hg hd hon => by
          have f25 := hd 25 (by decide) _ rfl
          have e25 : σ 25 = _ := f25.1 trivial
          have hgd : σ 25 = .bool false := hon
          have hgb := (f25.1 trivial : σ 25 = _).symm.trans hgd
          simp only [Value.bool.injEq] at hgb
          try simp only [decide_eq_true_eq, decide_eq_false_iff_not, Bool.or_eq_true, Bool.and_eq_true, Bool.or_eq_false_iff, Bool.and_eq_false_iff, Bool.not_eq_true', Bool.not_eq_false', Int.not_lt, Int.not_le, ne_eq, Decidable.not_not] at hgb
          exact OpOK.sub (r := [(5, _), (6, _), (7, _), (8, _), (9, _), (10, _), (11, _)]) ⟨rfl, rfl, rfl, rfl, rfl, rfl, rfl, trivial⟩ (by
            exact OpOK.eq (r_move rfl))
          ), (fun _ _ _ _ _ _ h => h), (FreeR.no _), ?_⟩
      refine ⟨_, false, (fun σ ι w1 hg hd hon => by
          have f30 := hd 30 (by decide) _ rfl
          have f31 := hd 31 (by decide) _ rfl
          have f25 := hd 25 (by decide) _ rfl
          have e30 : σ 30 = _ := f30.1 hon
          have e31 : σ 31 = _ := f31.1 hon
          have e25 : σ 25 = _ := f25.1 trivial
          have hgd : σ 25 = .bool false := hon
          have hgb := (f25.1 trivial : σ 25 = _).symm.trans hgd
          simp only [Value.bool.injEq] at hgb
          try simp only [decide_eq_true_eq, decide_eq_false_iff_not, Bool.or_eq_true, Bool.and_eq_true, Bool.or_eq_false_iff, Bool.and_eq_false_iff, Bool.not_eq_true', Bool.not_eq_false', Int.not_lt, Int.not_le, ne_eq, Decidable.not_not] at hgb
          exact OpOK.sub (r := [(89, _), (90, _), (5, _), (6, _), (7, _), (8, _), (9, _), (10, _), (11, _)]) ⟨congrArg some e30, congrArg some e31, rfl, rfl, rfl, rfl, rfl, rfl, rfl, trivial⟩ (by
            exact OpOK.eq (r_from (lo := k) Try.underlying24 sz23 rfl rfl rfl (by omega) (by omega)))
          ), (fun _ _ _ _ _ _ h => h), (FreeR.no _), ?_⟩
      refine ⟨_, true, (fun σ ι w1 hg hd hon => by
          have hN := hN.ofGr ((Gr.refl _).drew.trans hg)
          have hB5 := hB5.gr ((Gr.refl _).drew.trans hg)
          have hB8 := hB8.gr ((Gr.refl _).drew.trans hg)
          have hB9 := hB9.gr ((Gr.refl _).drew.trans hg)
          have f28 := hd 28 (by decide) _ rfl
          have f32 := hd 32 (by decide) _ rfl
          have f25 := hd 25 (by decide) _ rfl
          have e28 : σ 28 = _ := f28.1 hon
          have e32 : σ 32 = _ := f32.1 hon
          have e25 : σ 25 = _ := f25.1 trivial
          have hgd : σ 25 = .bool false := hon
          have hgb := (f25.1 trivial : σ 25 = _).symm.trans hgd
          simp only [Value.bool.injEq] at hgb
          try simp only [decide_eq_true_eq, decide_eq_false_iff_not, Bool.or_eq_true, Bool.and_eq_true, Bool.or_eq_false_iff, Bool.and_eq_false_iff, Bool.not_eq_true', Bool.not_eq_false', Int.not_lt, Int.not_le, ne_eq, Decidable.not_not] at hgb
          skip
          exact CallOK.sub (r := [(87, _), (91, _), (5, _), (6, _), (7, _), (8, _), (9, _), (10, _), (11, _)]) ⟨congrArg some e28, congrArg some e32, rfl, rfl, rfl, rfl, rfl, rfl, rfl, trivial⟩ (by
            exact CallOK.V (enters_of rfl rfl hb34) (by have hz := rsameall' (m := y.out.drop k) (c := c9) (c2 := c3 - k) (n2 := y.out.length - k) hN.sat hy9.oe (hy.oe.off (lo := k) hyc) rfl (by simp); exact hz))
          ), (fun _ _ _ _ _ _ h => h), (fun _ _ _ _ _ _ h => h), ?_⟩
      refine ⟨_, false, (fun σ ι w1 hg hd hon => by
          have f33 := hd 33 (by decide) _ rfl
          have f25 := hd 25 (by decide) _ rfl
          have e33 : σ 33 = _ := f33.1 hon
          have e25 : σ 25 = _ := f25.1 trivial
          have hgd : σ 25 = .bool false := hon
          have hgb := (f25.1 trivial : σ 25 = _).symm.trans hgd
          simp only [Value.bool.injEq] at hgb
          try simp only [decide_eq_true_eq, decide_eq_false_iff_not, Bool.or_eq_true, Bool.and_eq_true, Bool.or_eq_false_iff, Bool.and_eq_false_iff, Bool.not_eq_true', Bool.not_eq_false', Int.not_lt, Int.not_le, ne_eq, Decidable.not_not] at hgb
          exact OpOK.sub (r := [(92, _), (5, _), (6, _), (7, _), (8, _), (9, _), (10, _), (11, _)]) ⟨congrArg some e33, rfl, rfl, rfl, rfl, rfl, rfl, rfl, trivial⟩ (by
            exact OpOK.eq (r_not rfl))
          ), (fun _ _ _ _ _ _ h => h), (FreeR.no _), ?_⟩
      refine ⟨_, false, (fun σ ι w1 hg hd hon => by
          have f25 := hd 25 (by decide) _ rfl
          have f34 := hd 34 (by decide) _ rfl
          have e25 : σ 25 = _ := f25.1 trivial
          have ec : σ 25 = _ := f25.1 trivial
          exact OpOK.id (by refine OpOK.or (dc := 84) (dy := 93) (kc := σ 25) (ky := σ 34) ?_ ?_ ec (fun hb => f34.1 (by show σ 25 = _; rw [ec]; exact congrArg Value.bool hb)) <;> rfl)
          ), (fun _ _ _ _ _ _ h => h), (FreeR.no _), ?_⟩
      refine ⟨_, false, (fun σ ι w1 hg hd hon => by
          have f35 := hd 35 (by decide) _ rfl
          have e35 : σ 35 = _ := f35.1 trivial
          exact OpOK.sub (r := [(94, _), (5, _), (6, _), (7, _), (8, _), (9, _), (10, _), (11, _)]) ⟨congrArg some e35, rfl, rfl, rfl, rfl, rfl, rfl, rfl, trivial⟩ (by
            exact OpOK.eq (r_move rfl))
          ), (fun _ _ _ _ _ _ h => h), (FreeR.no _), ?_⟩
      refine ⟨_, false, (fun σ ι w1 hg hd hon => by
          have f36 := hd 36 (by decide) _ rfl
          have e36 : σ 36 = _ := f36.1 trivial
          have hgd : σ 36 = .bool false := hon
          have hgb := (f36.1 trivial : σ 36 = _).symm.trans hgd
          simp only [Value.bool.injEq] at hgb
          try simp only [decide_eq_true_eq, decide_eq_false_iff_not, Bool.or_eq_true, Bool.and_eq_true, Bool.or_eq_false_iff, Bool.and_eq_false_iff, Bool.not_eq_true', Bool.not_eq_false', Int.not_lt, Int.not_le, ne_eq, Decidable.not_not] at hgb
          exact OpOK.sub (r := [(5, _), (6, _), (7, _), (8, _), (9, _), (10, _), (11, _)]) ⟨rfl, rfl, rfl, rfl, rfl, rfl, rfl, trivial⟩ (by
            exact OpOK.eq (r_fld fld48_0 rfl))
          ), (fun _ _ _ _ _ _ h => h), (FreeR.no _), ?_⟩
      refine ⟨_, false, (fun σ ι w1 hg hd hon => by
          have f37 := hd 37 (by decide) _ rfl
          have f36 := hd 36 (by decide) _ rfl
          have e37 : σ 37 = _ := f37.1 hon
          have e36 : σ 36 = _ := f36.1 trivial
          have hgd : σ 36 = .bool false := hon
          have hgb := (f36.1 trivial : σ 36 = _).symm.trans hgd
          simp only [Value.bool.injEq] at hgb
          try simp only [decide_eq_true_eq, decide_eq_false_iff_not, Bool.or_eq_true, Bool.and_eq_true, Bool.or_eq_false_iff, Bool.and_eq_false_iff, Bool.not_eq_true', Bool.not_eq_false', Int.not_lt, Int.not_le, ne_eq, Decidable.not_not] at hgb
          exact OpOK.sub (r := [(96, _), (5, _), (6, _), (7, _), (8, _), (9, _), (10, _), (11, _)]) ⟨congrArg some e37, rfl, rfl, rfl, rfl, rfl, rfl, rfl, trivial⟩ (by
            exact OpOK.eq (r_fld fld26_3 rfl))
          ), (fun _ _ _ _ _ _ h => h), (FreeR.no _), ?_⟩
      refine ⟨_, false, (fun σ ι w1 hg hd hon => by
          have hN := hN.ofGr ((Gr.refl _).drew.trans hg)
          have hB5 := hB5.gr ((Gr.refl _).drew.trans hg)
          have hB8 := hB8.gr ((Gr.refl _).drew.trans hg)
          have hB9 := hB9.gr ((Gr.refl _).drew.trans hg)
          have f38 := hd 38 (by decide) _ rfl
          have f36 := hd 36 (by decide) _ rfl
          have e38 : σ 38 = _ := f38.1 hon
          have e36 : σ 36 = _ := f36.1 trivial
          have hgd : σ 36 = .bool false := hon
          have hgb := (f36.1 trivial : σ 36 = _).symm.trans hgd
          simp only [Value.bool.injEq] at hgb
          try simp only [decide_eq_true_eq, decide_eq_false_iff_not, Bool.or_eq_true, Bool.and_eq_true, Bool.or_eq_false_iff, Bool.and_eq_false_iff, Bool.not_eq_true', Bool.not_eq_false', Int.not_lt, Int.not_le, ne_eq, Decidable.not_not] at hgb
          exact OpOK.sub (r := [(97, _), (5, _), (6, _), (7, _), (8, _), (9, _), (10, _), (11, _)]) ⟨congrArg some e38, rfl, rfl, rfl, rfl, rfl, rfl, rfl, trivial⟩ (by
            exact OpOK.eq (r_load sc24 rfl (hB9.cell rfl)))
          ), (fun _ _ _ _ _ _ h => h), (FreeR.no _), ?_⟩
      refine ⟨_, false, (fun σ ι w1 hg hd hon => by
          have f39 := hd 39 (by decide) _ rfl
          have f36 := hd 36 (by decide) _ rfl
          have e39 : σ 39 = _ := f39.1 hon
          have e36 : σ 36 = _ := f36.1 trivial
          have hgd : σ 36 = .bool false := hon
          have hgb := (f36.1 trivial : σ 36 = _).symm.trans hgd
          simp only [Value.bool.injEq] at hgb
          try simp only [decide_eq_true_eq, decide_eq_false_iff_not, Bool.or_eq_true, Bool.and_eq_true, Bool.or_eq_false_iff, Bool.and_eq_false_iff, Bool.not_eq_true', Bool.not_eq_false', Int.not_lt, Int.not_le, ne_eq, Decidable.not_not] at hgb
          exact OpOK.sub (r := [(98, _), (5, _), (6, _), (7, _), (8, _), (9, _), (10, _), (11, _)]) ⟨congrArg some e39, rfl, rfl, rfl, rfl, rfl, rfl, rfl, trivial⟩ (by
            exact OpOK.eq (r_len Try.underlying24 rfl))
          ), (fun _ _ _ _ _ _ h => h), (FreeR.no _), ?_⟩
      refine ⟨_, false, (fun σ ι w1 hg hd hon => by
          have f36 := hd 36 (by decide) _ rfl
          have e36 : σ 36 = _ := f36.1 trivial
          have hgd : σ 36 = .bool false := hon
          have hgb := (f36.1 trivial : σ 36 = _).symm.trans hgd
          simp only [Value.bool.injEq] at hgb
          try simp only [decide_eq_true_eq, decide_eq_false_iff_not, Bool.or_eq_true, Bool.and_eq_true, Bool.or_eq_false_iff, Bool.and_eq_false_iff, Bool.not_eq_true', Bool.not_eq_false', Int.not_lt, Int.not_le, ne_eq, Decidable.not_not] at hgb
          exact OpOK.sub (r := [(5, _), (6, _), (7, _), (8, _), (9, _), (10, _), (11, _)]) ⟨rfl, rfl, rfl, rfl, rfl, rfl, rfl, trivial⟩ (by
            exact OpOK.eq (r_fld fld26_3 rfl))
          ), (fun _ _ _ _ _ _ h => h), (FreeR.no _), ?_⟩
      refine ⟨_, false, (fun σ ι w1 hg hd hon => by
          have hN := hN.ofGr ((Gr.refl _).drew.trans hg)
          have hB5 := hB5.gr ((Gr.refl _).drew.trans hg)
          have hB8 := hB8.gr ((Gr.refl _).drew.trans hg)
          have hB9 := hB9.gr ((Gr.refl _).drew.trans hg)
          have f41 := hd 41 (by decide) _ rfl
          have f36 := hd 36 (by decide) _ rfl
          have e41 : σ 41 = _ := f41.1 hon
          have e36 : σ 36 = _ := f36.1 trivial
          have hgd : σ 36 = .bool false := hon
          have hgb := (f36.1 trivial : σ 36 = _).symm.trans hgd
          simp only [Value.bool.injEq] at hgb
          try simp only [decide_eq_true_eq, decide_eq_false_iff_not, Bool.or_eq_true, Bool.and_eq_true, Bool.or_eq_false_iff, Bool.and_eq_false_iff, Bool.not_eq_true', Bool.not_eq_false', Int.not_lt, Int.not_le, ne_eq, Decidable.not_not] at hgb
          exact OpOK.sub (r := [(100, _), (5, _), (6, _), (7, _), (8, _), (9, _), (10, _), (11, _)]) ⟨congrArg some e41, rfl, rfl, rfl, rfl, rfl, rfl, rfl, trivial⟩ (by
            exact OpOK.eq (r_load sc24 rfl (hB8.cell rfl)))
          ), (fun _ _ _ _ _ _ h => h), (FreeR.no _), ?_⟩
      refine ⟨_, false, (fun σ ι w1 hg hd hon => by
          have f42 := hd 42 (by decide) _ rfl
          have f36 := hd 36 (by decide) _ rfl
          have e42 : σ 42 = _ := f42.1 hon
          have e36 : σ 36 = _ := f36.1 trivial
          have hgd : σ 36 = .bool false := hon
          have hgb := (f36.1 trivial : σ 36 = _).symm.trans hgd
          simp only [Value.bool.injEq] at hgb
          try simp only [decide_eq_true_eq, decide_eq_false_iff_not, Bool.or_eq_true, Bool.and_eq_true, Bool.or_eq_false_iff, Bool.and_eq_false_iff, Bool.not_eq_true', Bool.not_eq_false', Int.not_lt, Int.not_le, ne_eq, Decidable.not_not] at hgb
          exact OpOK.sub (r := [(101, _), (5, _), (6, _), (7, _), (8, _), (9, _), (10, _), (11, _)]) ⟨congrArg some e42, rfl, rfl, rfl, rfl, rfl, rfl, rfl, trivial⟩ (by
            exact OpOK.eq (r_len Try.underlying24 rfl))
          ), (fun _ _ _ _ _ _ h => h), (FreeR.no _), ?_⟩
      refine ⟨_, false, (fun σ ι w1 hg hd hon => by
          have f36 := hd 36 (by decide) _ rfl
          have e36 : σ 36 = _ := f36.1 trivial
          have hgd : σ 36 = .bool false := hon
          have hgb := (f36.1 trivial : σ 36 = _).symm.trans hgd
          simp only [Value.bool.injEq] at hgb
          try simp only [decide_eq_true_eq, decide_eq_false_iff_not, Bool.or_eq_true, Bool.and_eq_true, Bool.or_eq_false_iff, Bool.and_eq_false_iff, Bool.not_eq_true', Bool.not_eq_false', Int.not_lt, Int.not_le, ne_eq, Decidable.not_not] at hgb
          exact OpOK.sub (r := [(5, _), (6, _), (7, _), (8, _), (9, _), (10, _), (11, _)]) ⟨rfl, rfl, rfl, rfl, rfl, rfl, rfl, trivial⟩ (by
            exact OpOK.eq (r_move rfl))
          ), (fun _ _ _ _ _ _ h => h), (FreeR.no _), ?_⟩
      refine ⟨_, false, (fun σ ι w1 hg hd hon => by
          have f43 := hd 43 (by decide) _ rfl
          have f44 := hd 44 (by decide) _ rfl
          have f36 := hd 36 (by decide) _ rfl
          have e43 : σ 43 = _ := f43.1 hon
          have e44 : σ 44 = _ := f44.1 hon
          have e36 : σ 36 = _ := f36.1 trivial
          have hgd : σ 36 = .bool false := hon
          have hgb := (f36.1 trivial : σ 36 = _).symm.trans hgd
          simp only [Value.bool.injEq] at hgb
          try simp only [decide_eq_true_eq, decide_eq_false_iff_not, Bool.or_eq_true, Bool.and_eq_true, Bool.or_eq_false_iff, Bool.and_eq_false_iff, Bool.not_eq_true', Bool.not_eq_false', Int.not_lt, Int.not_le, ne_eq, Decidable.not_not] at hgb
          exact OpOK.sub (r := [(102, _), (103, _), (5, _), (6, _), (7, _), (8, _), (9, _), (10, _), (11, _)]) ⟨congrArg some e43, congrArg some e44, rfl, rfl, rfl, rfl, rfl, rfl, rfl, trivial⟩ (by
            first | exact OpOK.eq (r_addk rfl rfl (by simp only [InK]; omega)) | exact OpOK.eq (r_add rfl rfl))
          ), (fun _ _ _ _ _ _ h => h), (FreeR.no _), ?_⟩
      refine ⟨_, false, (fun σ ι w1 hg hd hon => by
          have f40 := hd 40 (by decide) _ rfl
          have f45 := hd 45 (by decide) _ rfl
          have f36 := hd 36 (by decide) _ rfl
          have e40 : σ 40 = _ := f40.1 hon
          have e45 : σ 45 = _ := f45.1 hon
          have e36 : σ 36 = _ := f36.1 trivial
          have hgd : σ 36 = .bool false := hon
          have hgb := (f36.1 trivial : σ 36 = _).symm.trans hgd
          simp only [Value.bool.injEq] at hgb
          try simp only [decide_eq_true_eq, decide_eq_false_iff_not, Bool.or_eq_true, Bool.and_eq_true, Bool.or_eq_false_iff, Bool.and_eq_false_iff, Bool.not_eq_true', Bool.not_eq_false', Int.not_lt, Int.not_le, ne_eq, Decidable.not_not] at hgb
          exact OpOK.sub (r := [(99, _), (104, _), (5, _), (6, _), (7, _), (8, _), (9, _), (10, _), (11, _)]) ⟨congrArg some e40, congrArg some e45, rfl, rfl, rfl, rfl, rfl, rfl, rfl, trivial⟩ (by
            exact OpOK.eq (r_neq rfl rfl))
          ), (fun _ _ _ _ _ _ h => h), (FreeR.no _), ?_⟩
      refine ⟨_, false, (fun σ ι w1 hg hd hon => by
          have f36 := hd 36 (by decide) _ rfl
          have f46 := hd 46 (by decide) _ rfl
          have e36 : σ 36 = _ := f36.1 trivial
          have ec : σ 36 = _ := f36.1 trivial
          exact OpOK.id (by refine OpOK.or (dc := 95) (dy := 105) (kc := σ 36) (ky := σ 46) ?_ ?_ ec (fun hb => f46.1 (by show σ 36 = _; rw [ec]; exact congrArg Value.bool hb)) <;> rfl)
          ), (fun _ _ _ _ _ _ h => h), (FreeR.no _), ?_⟩
      refine ⟨_, false, (fun σ ι w1 hg hd hon => by
          have f47 := hd 47 (by decide) _ rfl
          have e47 : σ 47 = _ := f47.1 trivial
          exact OpOK.sub (r := [(106, _), (5, _), (6, _), (7, _), (8, _), (9, _), (10, _), (11, _)]) ⟨congrArg some e47, rfl, rfl, rfl, rfl, rfl, rfl, rfl, trivial⟩ (by
            exact OpOK.eq (r_move rfl))
          ), (fun _ _ _ _ _ _ h => h), (FreeR.no _), ?_⟩
      refine ⟨_, false, (fun σ ι w1 hg hd hon => by
          have f48 := hd 48 (by decide) _ rfl
          have e48 : σ 48 = _ := f48.1 trivial
          have hgd : σ 48 = .bool false := hon
          have hgb := (f48.1 trivial : σ 48 = _).symm.trans hgd
          simp only [Value.bool.injEq] at hgb
          try simp only [decide_eq_true_eq, decide_eq_false_iff_not, Bool.or_eq_true, Bool.and_eq_true, Bool.or_eq_false_iff, Bool.and_eq_false_iff, Bool.not_eq_true', Bool.not_eq_false', Int.not_lt, Int.not_le, ne_eq, Decidable.not_not] at hgb
          exact OpOK.sub (r := [(5, _), (6, _), (7, _), (8, _), (9, _), (10, _), (11, _)]) ⟨rfl, rfl, rfl, rfl, rfl, rfl, rfl, trivial⟩ (by
            exact OpOK.eq (r_fld fld26_3 rfl))
          ), (fun _ _ _ _ _ _ h => h), (FreeR.no _), ?_⟩
      refine ⟨_, false, (fun σ ι w1 hg hd hon => by
          have hN := hN.ofGr ((Gr.refl _).drew.trans hg)
          have hB5 := hB5.gr ((Gr.refl _).drew.trans hg)
          have hB8 := hB8.gr ((Gr.refl _).drew.trans hg)
          have hB9 := hB9.gr ((Gr.refl _).drew.trans hg)
          have f49 := hd 49 (by decide) _ rfl
          have f48 := hd 48 (by decide) _ rfl
          have e49 : σ 49 = _ := f49.1 hon
          have e48 : σ 48 = _ := f48.1 trivial
          have hgd : σ 48 = .bool false := hon
          have hgb := (f48.1 trivial : σ 48 = _).symm.trans hgd
          simp only [Value.bool.injEq] at hgb
          try simp only [decide_eq_true_eq, decide_eq_false_iff_not, Bool.or_eq_true, Bool.and_eq_true, Bool.or_eq_false_iff, Bool.and_eq_false_iff, Bool.not_eq_true', Bool.not_eq_false', Int.not_lt, Int.not_le, ne_eq, Decidable.not_not] at hgb
          exact OpOK.sub (r := [(108, _), (5, _), (6, _), (7, _), (8, _), (9, _), (10, _), (11, _)]) ⟨congrArg some e49, rfl, rfl, rfl, rfl, rfl, rfl, rfl, trivial⟩ (by
            exact OpOK.eq (r_load sc24 rfl (hB8.cell rfl)))
          ), (fun _ _ _ _ _ _ h => h), (FreeR.no _), ?_⟩
      refine ⟨_, false, (fun σ ι w1 hg hd hon => by
          have f48 := hd 48 (by decide) _ rfl
          have e48 : σ 48 = _ := f48.1 trivial
          have hgd : σ 48 = .bool false := hon
          have hgb := (f48.1 trivial : σ 48 = _).symm.trans hgd
          simp only [Value.bool.injEq] at hgb
          try simp only [decide_eq_true_eq, decide_eq_false_iff_not, Bool.or_eq_true, Bool.and_eq_true, Bool.or_eq_false_iff, Bool.and_eq_false_iff, Bool.not_eq_true', Bool.not_eq_false', Int.not_lt, Int.not_le, ne_eq, Decidable.not_not] at hgb
          exact OpOK.sub (r := [(5, _), (6, _), (7, _), (8, _), (9, _), (10, _), (11, _)]) ⟨rfl, rfl, rfl, rfl, rfl, rfl, rfl, trivial⟩ (by
            exact OpOK.eq (r_fld fld48_0 rfl))
          ), (fun _ _ _ _ _ _ h => h), (FreeR.no _), ?_⟩
      refine ⟨_, false, (fun σ ι w1 hg hd hon => by
          have f51 := hd 51 (by decide) _ rfl
          have f48 := hd 48 (by decide) _ rfl
          have e51 : σ 51 = _ := f51.1 hon
          have e48 : σ 48 = _ := f48.1 trivial
          have hgd : σ 48 = .bool false := hon
          have hgb := (f48.1 trivial : σ 48 = _).symm.trans hgd
          simp only [Value.bool.injEq] at hgb
          try simp only [decide_eq_true_eq, decide_eq_false_iff_not, Bool.or_eq_true, Bool.and_eq_true, Bool.or_eq_false_iff, Bool.and_eq_false_iff, Bool.not_eq_true', Bool.not_eq_false', Int.not_lt, Int.not_le, ne_eq, Decidable.not_not] at hgb
          exact OpOK.sub (r := [(110, _), (5, _), (6, _), (7, _), (8, _), (9, _), (10, _), (11, _)]) ⟨congrArg some e51, rfl, rfl, rfl, rfl, rfl, rfl, rfl, trivial⟩ (by
            exact OpOK.eq (r_fld fld26_3 rfl))
          ), (fun _ _ _ _ _ _ h => h), (FreeR.no _), ?_⟩
      refine ⟨_, false, (fun σ ι w1 hg hd hon => by
          have hN := hN.ofGr ((Gr.refl _).drew.trans hg)
          have hB5 := hB5.gr ((Gr.refl _).drew.trans hg)
          have hB8 := hB8.gr ((Gr.refl _).drew.trans hg)
          have hB9 := hB9.gr ((Gr.refl _).drew.trans hg)
          have f52 := hd 52 (by decide) _ rfl
          have f48 := hd 48 (by decide) _ rfl
          have e52 : σ 52 = _ := f52.1 hon
          have e48 : σ 48 = _ := f48.1 trivial
          have hgd : σ 48 = .bool false := hon
          have hgb := (f48.1 trivial : σ 48 = _).symm.trans hgd
          simp only [Value.bool.injEq] at hgb
          try simp only [decide_eq_true_eq, decide_eq_false_iff_not, Bool.or_eq_true, Bool.and_eq_true, Bool.or_eq_false_iff, Bool.and_eq_false_iff, Bool.not_eq_true', Bool.not_eq_false', Int.not_lt, Int.not_le, ne_eq, Decidable.not_not] at hgb
          exact OpOK.sub (r := [(111, _), (5, _), (6, _), (7, _), (8, _), (9, _), (10, _), (11, _)]) ⟨congrArg some e52, rfl, rfl, rfl, rfl, rfl, rfl, rfl, trivial⟩ (by
            exact OpOK.eq (r_load sc24 rfl (hB9.cell rfl)))
          ), (fun _ _ _ _ _ _ h => h), (FreeR.no _), ?_⟩
      refine ⟨_, true, (fun σ ι w1 hg hd hon => by
          have hN := hN.ofGr ((Gr.refl _).drew.trans hg)
          have hB5 := hB5.gr ((Gr.refl _).drew.trans hg)
          have hB8 := hB8.gr ((Gr.refl _).drew.trans hg)
          have hB9 := hB9.gr ((Gr.refl _).drew.trans hg)
          have f50 := hd 50 (by decide) _ rfl
          have f53 := hd 53 (by decide) _ rfl
          have f48 := hd 48 (by decide) _ rfl
          have e50 : σ 50 = _ := f50.1 hon
          have e53 : σ 53 = _ := f53.1 hon
          have e48 : σ 48 = _ := f48.1 trivial
          have hgd : σ 48 = .bool false := hon
          have hgb := (f48.1 trivial : σ 48 = _).symm.trans hgd
          simp only [Value.bool.injEq] at hgb
          try simp only [decide_eq_true_eq, decide_eq_false_iff_not, Bool.or_eq_true, Bool.and_eq_true, Bool.or_eq_false_iff, Bool.and_eq_false_iff, Bool.not_eq_true', Bool.not_eq_false', Int.not_lt, Int.not_le, ne_eq, Decidable.not_not] at hgb
          skip
          exact CallOK.sub (r := [(109, _), (112, _), (5, _), (6, _), (7, _), (8, _), (9, _), (10, _), (11, _)]) ⟨congrArg some e50, congrArg some e53, rfl, rfl, rfl, rfl, rfl, rfl, rfl, trivial⟩ (by
            exact CallOK.V (enters_of rfl rfl hb35) (by have hz := lprefix (c := c4) hN.sat hy.ie hy9.ie hy9.ic; exact hz))
          ), (fun _ _ _ _ _ _ h => h), (fun _ _ _ _ _ _ h => h), ?_⟩
      refine ⟨_, false, (fun σ ι w1 hg hd hon => by
          have f54 := hd 54 (by decide) _ rfl
          have f48 := hd 48 (by decide) _ rfl
          have e54 : σ 54 = _ := f54.1 hon
          have e48 : σ 48 = _ := f48.1 trivial
          have hgd : σ 48 = .bool false := hon
          have hgb := (f48.1 trivial : σ 48 = _).symm.trans hgd
          simp only [Value.bool.injEq] at hgb
          try simp only [decide_eq_true_eq, decide_eq_false_iff_not, Bool.or_eq_true, Bool.and_eq_true, Bool.or_eq_false_iff, Bool.and_eq_false_iff, Bool.not_eq_true', Bool.not_eq_false', Int.not_lt, Int.not_le, ne_eq, Decidable.not_not] at hgb
          exact OpOK.sub (r := [(113, _), (5, _), (6, _), (7, _), (8, _), (9, _), (10, _), (11, _)]) ⟨congrArg some e54, rfl, rfl, rfl, rfl, rfl, rfl, rfl, trivial⟩ (by
            exact OpOK.eq (r_not rfl))
          ), (fun _ _ _ _ _ _ h => h), (FreeR.no _), ?_⟩
      refine ⟨_, false, (fun σ ι w1 hg hd hon => by
          have f48 := hd 48 (by decide) _ rfl
          have f55 := hd 55 (by decide) _ rfl
          have e48 : σ 48 = _ := f48.1 trivial
          have ec : σ 48 = _ := f48.1 trivial
          exact OpOK.id (by refine OpOK.or (dc := 107) (dy := 114) (kc := σ 48) (ky := σ 55) ?_ ?_ ec (fun hb => f55.1 (by show σ 48 = _; rw [ec]; exact congrArg Value.bool hb)) <;> rfl)
          ), (fun _ _ _ _ _ _ h => h), (FreeR.no _), ?_⟩
      refine ⟨_, false, (fun σ ι w1 hg hd hon => by
          have f56 := hd 56 (by decide) _ rfl
          have e56 : σ 56 = _ := f56.1 trivial
          exact OpOK.sub (r := [(115, _), (5, _), (6, _), (7, _), (8, _), (9, _), (10, _), (11, _)]) ⟨congrArg some e56, rfl, rfl, rfl, rfl, rfl, rfl, rfl, trivial⟩ (by
            exact OpOK.eq (r_move rfl))
          ), (fun _ _ _ _ _ _ h => h), (FreeR.no _), ?_⟩
      refine ⟨_, false, (fun σ ι w1 hg hd hon => by
          have f57 := hd 57 (by decide) _ rfl
          have e57 : σ 57 = _ := f57.1 trivial
          have hgd : σ 57 = .bool false := hon
          have hgb := (f57.1 trivial : σ 57 = _).symm.trans hgd
          simp only [Value.bool.injEq] at hgb
          try simp only [decide_eq_true_eq, decide_eq_false_iff_not, Bool.or_eq_true, Bool.and_eq_true, Bool.or_eq_false_iff, Bool.and_eq_false_iff, Bool.not_eq_true', Bool.not_eq_false', Int.not_lt, Int.not_le, ne_eq, Decidable.not_not] at hgb
          exact OpOK.sub (r := [(5, _), (6, _), (7, _), (8, _), (9, _), (10, _), (11, _)]) ⟨rfl, rfl, rfl, rfl, rfl, rfl, rfl, trivial⟩ (by
            exact OpOK.eq (r_fld fld48_0 rfl))
          ), (fun _ _ _ _ _ _ h => h), (FreeR.no _), ?_⟩
      refine ⟨_, false, (fun σ ι w1 hg hd hon => by
          have hN := hN.ofGr ((Gr.refl _).drew.trans hg)
          have hB5 := hB5.gr ((Gr.refl _).drew.trans hg)
          have hB8 := hB8.gr ((Gr.refl _).drew.trans hg)
          have hB9 := hB9.gr ((Gr.refl _).drew.trans hg)
          have f58 := hd 58 (by decide) _ rfl
          have f57 := hd 57 (by decide) _ rfl
          have e58 : σ 58 = _ := f58.1 hon
          have e57 : σ 57 = _ := f57.1 trivial
          have hgd : σ 57 = .bool false := hon
          have hgb := (f57.1 trivial : σ 57 = _).symm.trans hgd
          simp only [Value.bool.injEq] at hgb
          try simp only [decide_eq_true_eq, decide_eq_false_iff_not, Bool.or_eq_true, Bool.and_eq_true, Bool.or_eq_false_iff, Bool.and_eq_false_iff, Bool.not_eq_true', Bool.not_eq_false', Int.not_lt, Int.not_le, ne_eq, Decidable.not_not] at hgb
          exact OpOK.sub (r := [(117, _), (5, _), (6, _), (7, _), (8, _), (9, _), (10, _), (11, _)]) ⟨congrArg some e58, rfl, rfl, rfl, rfl, rfl, rfl, rfl, trivial⟩ (by
            exact OpOK.eq (Box.loadO ag26 rfl hB9 (by simp)))
          ), (fun _ _ _ _ _ _ h => h), (FreeR.no _), ?_⟩
      refine ⟨_, true, (fun σ ι w1 hg hd hon => by
          have hN := hN.ofGr ((Gr.refl _).drew.trans hg)
          have hB5 := hB5.gr ((Gr.refl _).drew.trans hg)
          have hB8 := hB8.gr ((Gr.refl _).drew.trans hg)
          have hB9 := hB9.gr ((Gr.refl _).drew.trans hg)
          have f59 := hd 59 (by decide) _ rfl
          have f57 := hd 57 (by decide) _ rfl
          have e59 : σ 59 = _ := f59.1 hon
          have e57 : σ 57 = _ := f57.1 trivial
          have hgd : σ 57 = .bool false := hon
          have hgb := (f57.1 trivial : σ 57 = _).symm.trans hgd
          simp only [Value.bool.injEq] at hgb
          try simp only [decide_eq_true_eq, decide_eq_false_iff_not, Bool.or_eq_true, Bool.and_eq_true, Bool.or_eq_false_iff, Bool.and_eq_false_iff, Bool.not_eq_true', Bool.not_eq_false', Int.not_lt, Int.not_le, ne_eq, Decidable.not_not] at hgb
          skip
          exact CallOK.sub (r := [(118, _), (5, _), (6, _), (7, _), (8, _), (9, _), (10, _), (11, _)]) ⟨congrArg some e59, rfl, rfl, rfl, rfl, rfl, rfl, rfl, trivial⟩ (by
            exact CallOK.V (enters_of rfl rfl hb15) (by have hz := valid_ret hN.sat hy9; exact hz))
          ), (fun _ _ _ _ _ _ h => h), (fun _ _ _ _ _ _ h => h), ?_⟩
      refine ⟨_, false, (fun σ ι w1 hg hd hon => by
          have f60 := hd 60 (by decide) _ rfl
          have f57 := hd 57 (by decide) _ rfl
          have e60 : σ 60 = _ := f60.1 hon
          have e57 : σ 57 = _ := f57.1 trivial
          have hgd : σ 57 = .bool false := hon
          have hgb := (f57.1 trivial : σ 57 = _).symm.trans hgd
          simp only [Value.bool.injEq] at hgb
          try simp only [decide_eq_true_eq, decide_eq_false_iff_not, Bool.or_eq_true, Bool.and_eq_true, Bool.or_eq_false_iff, Bool.and_eq_false_iff, Bool.not_eq_true', Bool.not_eq_false', Int.not_lt, Int.not_le, ne_eq, Decidable.not_not] at hgb
          exact OpOK.sub (r := [(119, _), (5, _), (6, _), (7, _), (8, _), (9, _), (10, _), (11, _)]) ⟨congrArg some e60, rfl, rfl, rfl, rfl, rfl, rfl, rfl, trivial⟩ (by
            exact OpOK.eq (r_not rfl))
          ), (fun _ _ _ _ _ _ h => h), (FreeR.no _), ?_⟩
      refine ⟨_, false, (fun σ ι w1 hg hd hon => by
          have f57 := hd 57 (by decide) _ rfl
          have f61 := hd 61 (by decide) _ rfl
          have e57 : σ 57 = _ := f57.1 trivial
          have ec : σ 57 = _ := f57.1 trivial
          exact OpOK.id (by refine OpOK.or (dc := 116) (dy := 120) (kc := σ 57) (ky := σ 61) ?_ ?_ ec (fun hb => f61.1 (by show σ 57 = _; rw [ec]; exact congrArg Value.bool hb)) <;> rfl)
          ), (fun _ _ _ _ _ _ h => h), (FreeR.no _), ?_⟩
      intro σ ι a42 w13 hgw13 H62 hd hap
      skip
      have hN0 := hN
      have hN := hN.ofGr ((Gr.refl _).drew.trans hgw13)
      replace hB5 := hB5.gr ((Gr.refl _).drew.trans hgw13)
      replace hB8 := hB8.gr ((Gr.refl _).drew.trans hgw13)
      replace hB9 := hB9.gr ((Gr.refl _).drew.trans hgw13)
      have e62 : σ 62 = _ := (hd 62 (by decide) _ rfl).1 trivial
      replace H62 := H62.sub (r := [(121, _), (5, _), (6, _), (7, _), (8, _), (9, _), (10, _), (11, _)]) ⟨congrArg some e62, rfl, rfl, rfl, rfl, rfl, rfl, rfl, trivial⟩
      clear hd
      clear hap
      refine wl_end ?_
      refine th_n ?_
      first | refine w_if H62 rfl (fun hc121 => ?_) (fun hc121 => ?_) | refine w_cond H62 rfl (fun hc121 => ?_) (fun hc121 => ?_)
      ·
        exact absurd hc121 (by simp [hzval, hzk, hout, hin1, ← hin2]; omega)
      ·
        try simp only [decide_eq_true_eq, decide_eq_false_iff_not, Bool.or_eq_true, Bool.and_eq_true, Bool.or_eq_false_iff, Bool.and_eq_false_iff, Bool.not_eq_true', Bool.not_eq_false', Int.not_lt, Int.not_le, ne_eq, Decidable.not_not] at hc121
        refine wpIn_skip ?_
        refine th_n ?_
        refine wpIn_seq ?_
        obtain ⟨AA, cA, bI, oI, hrow⟩ : ∃ AA cA bI oI, ¬ m = 0 → A9' = some ⟨bI, oI, none⟩ ∧ y.inn.length < z.inn.length ∧ (J8).cell? ⟨bI, oI + y.inn.length * 1, none⟩ = some (.slice AA q.data.length cA) ∧ Els (kInt .u8) J8 AA q.data := by
          by_cases hm0 : m = 0
          · exact ⟨none, 0, 0, 0, fun h => absurd hm0 h⟩
          · obtain ⟨_, hz2⟩ := hin3 hm0
            have hl : y.inn.length < z.inn.length := by omega
            obtain ⟨bI, oI, hA⟩ := hy9.ie.form (by omega)
            obtain ⟨AA, cA, hcA, hlA, hEA⟩ := (hA ▸ hy9.ie).rowAt hl
            have he : z.inn[y.inn.length] = q.data := by simp [hz2]
            rw [he] at hcA hEA
            exact ⟨AA, cA, bI, oI, fun _ => ⟨hA, hl, hcA, hEA⟩⟩
        have hS0 := hN.sat
        have hNsz13 := hN.gr.size
        refine w_drawE (m := 25) (l0 := [(5, _), (6, _), (7, _), (8, _), (9, _), (11, _)]) hfol H62 ⟨rfl, rfl, rfl, rfl, rfl, rfl, trivial⟩ (by kernel_rfl) ?_
        refine ⟨_, false, (fun σ ι w1 hg hd hon => by
            exact OpOK.sub (r := [(5, _), (6, _), (7, _), (8, _), (9, _), (11, _)]) ⟨rfl, rfl, rfl, rfl, rfl, rfl, trivial⟩ (by
              exact OpOK.eq (r_move rfl))
            ), (fun _ _ _ _ _ _ h => h), (FreeR.no _), ?_⟩
        refine ⟨_, false, (fun σ ι w1 hg hd hon => by
            have f0 := hd 0 (by decide) _ rfl
            have e0 : σ 0 = _ := f0.1 trivial
            exact OpOK.sub (r := [(122, _), (5, _), (6, _), (7, _), (8, _), (9, _), (11, _)]) ⟨congrArg some e0, rfl, rfl, rfl, rfl, rfl, rfl, trivial⟩ (by
              exact OpOK.eq (r_eql rfl rfl))
            ), (fun _ _ _ _ _ _ h => h), (FreeR.no _), ?_⟩
        refine ⟨_, false, (fun σ ι w1 hg hd hon => by
            have f1 := hd 1 (by decide) _ rfl
            have e1 : σ 1 = _ := f1.1 trivial
            exact OpOK.sub (r := [(123, _), (5, _), (6, _), (7, _), (8, _), (9, _), (11, _)]) ⟨congrArg some e1, rfl, rfl, rfl, rfl, rfl, rfl, trivial⟩ (by
              exact OpOK.eq (r_move rfl))
            ), (fun _ _ _ _ _ _ h => h), (FreeR.no _), ?_⟩
        refine ⟨_, false, (fun σ ι w1 hg hd hon => by
            have f2 := hd 2 (by decide) _ rfl
            have e2 : σ 2 = _ := f2.1 trivial
            have hgd : σ 2 = .bool false := hon
            have hgb := (f2.1 trivial : σ 2 = _).symm.trans hgd
            simp only [Value.bool.injEq] at hgb
            try simp only [decide_eq_true_eq, decide_eq_false_iff_not, Bool.or_eq_true, Bool.and_eq_true, Bool.or_eq_false_iff, Bool.and_eq_false_iff, Bool.not_eq_true', Bool.not_eq_false', Int.not_lt, Int.not_le, ne_eq, Decidable.not_not] at hgb
            exact OpOK.sub (r := [(5, _), (6, _), (7, _), (8, _), (9, _), (11, _)]) ⟨rfl, rfl, rfl, rfl, rfl, rfl, trivial⟩ (by
              exact OpOK.eq (r_fld fld28_0 rfl))
            ), (fun _ _ _ _ _ _ h => h), (FreeR.no _), ?_⟩
        refine ⟨_, false, (fun σ ι w1 hg hd hon => by
            have hN := hN.ofGr ((Gr.refl _).drew.trans hg)
            have hB5 := hB5.gr ((Gr.refl _).drew.trans hg)
            have hB8 := hB8.gr ((Gr.refl _).drew.trans hg)
            have hB9 := hB9.gr ((Gr.refl _).drew.trans hg)
            have f3 := hd 3 (by decide) _ rfl
            have f2 := hd 2 (by decide) _ rfl
            have e3 : σ 3 = _ := f3.1 hon
            have e2 : σ 2 = _ := f2.1 trivial
            have hgd : σ 2 = .bool false := hon
            have hgb := (f2.1 trivial : σ 2 = _).symm.trans hgd
            simp only [Value.bool.injEq] at hgb
            try simp only [decide_eq_true_eq, decide_eq_false_iff_not, Bool.or_eq_true, Bool.and_eq_true, Bool.or_eq_false_iff, Bool.and_eq_false_iff, Bool.not_eq_true', Bool.not_eq_false', Int.not_lt, Int.not_le, ne_eq, Decidable.not_not] at hgb
            exact OpOK.sub (r := [(125, _), (5, _), (6, _), (7, _), (8, _), (9, _), (11, _)]) ⟨congrArg some e3, rfl, rfl, rfl, rfl, rfl, rfl, trivial⟩ (by
              exact OpOK.eq (r_load sc3 rfl (hB5.cell rfl)))
            ), (fun _ _ _ _ _ _ h => h), (FreeR.no _), ?_⟩
        refine ⟨_, false, (fun σ ι w1 hg hd hon => by
            have f2 := hd 2 (by decide) _ rfl
            have e2 : σ 2 = _ := f2.1 trivial
            have hgd : σ 2 = .bool false := hon
            have hgb := (f2.1 trivial : σ 2 = _).symm.trans hgd
            simp only [Value.bool.injEq] at hgb
            try simp only [decide_eq_true_eq, decide_eq_false_iff_not, Bool.or_eq_true, Bool.and_eq_true, Bool.or_eq_false_iff, Bool.and_eq_false_iff, Bool.not_eq_true', Bool.not_eq_false', Int.not_lt, Int.not_le, ne_eq, Decidable.not_not] at hgb
            exact OpOK.sub (r := [(5, _), (6, _), (7, _), (8, _), (9, _), (11, _)]) ⟨rfl, rfl, rfl, rfl, rfl, rfl, trivial⟩ (by
              exact OpOK.eq (r_fld fld26_4 rfl))
            ), (fun _ _ _ _ _ _ h => h), (FreeR.no _), ?_⟩
        refine ⟨_, false, (fun σ ι w1 hg hd hon => by
            have hN := hN.ofGr ((Gr.refl _).drew.trans hg)
            have hB5 := hB5.gr ((Gr.refl _).drew.trans hg)
            have hB8 := hB8.gr ((Gr.refl _).drew.trans hg)
            have hB9 := hB9.gr ((Gr.refl _).drew.trans hg)
            have f5 := hd 5 (by decide) _ rfl
            have f2 := hd 2 (by decide) _ rfl
            have e5 : σ 5 = _ := f5.1 hon
            have e2 : σ 2 = _ := f2.1 trivial
            have hgd : σ 2 = .bool false := hon
            have hgb := (f2.1 trivial : σ 2 = _).symm.trans hgd
            simp only [Value.bool.injEq] at hgb
            try simp only [decide_eq_true_eq, decide_eq_false_iff_not, Bool.or_eq_true, Bool.and_eq_true, Bool.or_eq_false_iff, Bool.and_eq_false_iff, Bool.not_eq_true', Bool.not_eq_false', Int.not_lt, Int.not_le, ne_eq, Decidable.not_not] at hgb
            exact OpOK.sub (r := [(127, _), (5, _), (6, _), (7, _), (8, _), (9, _), (11, _)]) ⟨congrArg some e5, rfl, rfl, rfl, rfl, rfl, rfl, trivial⟩ (by
              exact OpOK.eq (r_load sc3 rfl (hB8.cell rfl)))
            ), (fun _ _ _ _ _ _ h => h), (FreeR.no _), ?_⟩
        refine ⟨_, false, (fun σ ι w1 hg hd hon => by
            have f4 := hd 4 (by decide) _ rfl
            have f6 := hd 6 (by decide) _ rfl
            have f2 := hd 2 (by decide) _ rfl
            have e4 : σ 4 = _ := f4.1 hon
            have e6 : σ 6 = _ := f6.1 hon
            have e2 : σ 2 = _ := f2.1 trivial
            have hgd : σ 2 = .bool false := hon
            have hgb := (f2.1 trivial : σ 2 = _).symm.trans hgd
            simp only [Value.bool.injEq] at hgb
            try simp only [decide_eq_true_eq, decide_eq_false_iff_not, Bool.or_eq_true, Bool.and_eq_true, Bool.or_eq_false_iff, Bool.and_eq_false_iff, Bool.not_eq_true', Bool.not_eq_false', Int.not_lt, Int.not_le, ne_eq, Decidable.not_not] at hgb
            exact OpOK.sub (r := [(126, _), (128, _), (5, _), (6, _), (7, _), (8, _), (9, _), (11, _)]) ⟨congrArg some e4, congrArg some e6, rfl, rfl, rfl, rfl, rfl, rfl, trivial⟩ (by
              exact OpOK.eq (r_eql rfl rfl))
            ), (fun _ _ _ _ _ _ h => h), (FreeR.no _), ?_⟩
        refine ⟨_, false, (fun σ ι w1 hg hd hon => by
            have f7 := hd 7 (by decide) _ rfl
            have f2 := hd 2 (by decide) _ rfl
            have e7 : σ 7 = _ := f7.1 hon
            have e2 : σ 2 = _ := f2.1 trivial
            have hgd : σ 2 = .bool false := hon
            have hgb := (f2.1 trivial : σ 2 = _).symm.trans hgd
            simp only [Value.bool.injEq] at hgb
            try simp only [decide_eq_true_eq, decide_eq_false_iff_not, Bool.or_eq_true, Bool.and_eq_true, Bool.or_eq_false_iff, Bool.and_eq_false_iff, Bool.not_eq_true', Bool.not_eq_false', Int.not_lt, Int.not_le, ne_eq, Decidable.not_not] at hgb
            refine OpOK.ofCond ?_
            exact OpOK.sub (r := [(129, _), (5, _), (6, _), (7, _), (8, _), (9, _), (11, _)]) ⟨congrArg some e7, rfl, rfl, rfl, rfl, rfl, rfl, trivial⟩ (by exact ⟨_, _, r_move rfl, Gr.refl _, rfl, by omega⟩)
            ), ((fun _ _ _ _ _ _ h => h) : MonoR (fun (_ : Nat → Value) u _ _ => u = .bool (decide (q.seq = y.rcv)) ∧ ¬ m = 0)), (FreeR.no _), ?_⟩
        refine ⟨_, false, (fun σ ι w1 hg hd hon => by
            have f8 := hd 8 (by decide) _ rfl
            have hgd : σ 8 = .bool true := hon
            exact OpOK.sub (r := [(5, _), (6, _), (7, _), (8, _), (9, _), (11, _)]) ⟨rfl, rfl, rfl, rfl, rfl, rfl, trivial⟩ (by
              exact OpOK.eq (r_fld fld48_0 rfl))
            ), (fun _ _ _ _ _ _ h => h), (FreeR.no _), ?_⟩
        refine ⟨_, false, (fun σ ι w1 hg hd hon => by
            have f9 := hd 9 (by decide) _ rfl
            have f8 := hd 8 (by decide) _ rfl
            have e9 : σ 9 = _ := f9.1 hon
            have hgd : σ 8 = .bool true := hon
            exact OpOK.sub (r := [(131, _), (5, _), (6, _), (7, _), (8, _), (9, _), (11, _)]) ⟨congrArg some e9, rfl, rfl, rfl, rfl, rfl, rfl, trivial⟩ (by
              exact OpOK.eq (r_fld fld26_3 rfl))
            ), (fun _ _ _ _ _ _ h => h), (FreeR.no _), ?_⟩
        refine ⟨_, false, (fun σ ι w1 hg hd hon => by
            have hN := hN.ofGr ((Gr.refl _).drew.trans hg)
            have hB5 := hB5.gr ((Gr.refl _).drew.trans hg)
            have hB8 := hB8.gr ((Gr.refl _).drew.trans hg)
            have hB9 := hB9.gr ((Gr.refl _).drew.trans hg)
            have f10 := hd 10 (by decide) _ rfl
            have f8 := hd 8 (by decide) _ rfl
            have e10 : σ 10 = _ := f10.1 hon
            have hgd : σ 8 = .bool true := hon
            exact OpOK.sub (r := [(132, _), (5, _), (6, _), (7, _), (8, _), (9, _), (11, _)]) ⟨congrArg some e10, rfl, rfl, rfl, rfl, rfl, rfl, trivial⟩ (by
              exact OpOK.eq (r_load sc24 rfl (hB9.cell rfl)))
            ), (fun _ _ _ _ _ _ h => h), (FreeR.no _), ?_⟩
        refine ⟨_, false, (fun σ ι w1 hg hd hon => by
            have f8 := hd 8 (by decide) _ rfl
            have hgd : σ 8 = .bool true := hon
            exact OpOK.sub (r := [(5, _), (6, _), (7, _), (8, _), (9, _), (11, _)]) ⟨rfl, rfl, rfl, rfl, rfl, rfl, trivial⟩ (by
              exact OpOK.eq (r_fld fld26_3 rfl))
            ), (fun _ _ _ _ _ _ h => h), (FreeR.no _), ?_⟩
        refine ⟨_, false, (fun σ ι w1 hg hd hon => by
            have hN := hN.ofGr ((Gr.refl _).drew.trans hg)
            have hB5 := hB5.gr ((Gr.refl _).drew.trans hg)
            have hB8 := hB8.gr ((Gr.refl _).drew.trans hg)
            have hB9 := hB9.gr ((Gr.refl _).drew.trans hg)
            have f12 := hd 12 (by decide) _ rfl
            have f8 := hd 8 (by decide) _ rfl
            have e12 : σ 12 = _ := f12.1 hon
            have hgd : σ 8 = .bool true := hon
            exact OpOK.sub (r := [(134, _), (5, _), (6, _), (7, _), (8, _), (9, _), (11, _)]) ⟨congrArg some e12, rfl, rfl, rfl, rfl, rfl, rfl, trivial⟩ (by
              exact OpOK.eq (r_load sc24 rfl (hB8.cell rfl)))
            ), (fun _ _ _ _ _ _ h => h), (FreeR.no _), ?_⟩
        refine ⟨_, false, (fun σ ι w1 hg hd hon => by
            have f13 := hd 13 (by decide) _ rfl
            have f8 := hd 8 (by decide) _ rfl
            have e13 : σ 13 = _ := f13.1 hon
            have hgd : σ 8 = .bool true := hon
            exact OpOK.sub (r := [(135, _), (5, _), (6, _), (7, _), (8, _), (9, _), (11, _)]) ⟨congrArg some e13, rfl, rfl, rfl, rfl, rfl, rfl, trivial⟩ (by
              exact OpOK.eq (r_len Try.underlying24 rfl))
            ), (fun _ _ _ _ _ _ h => h), (FreeR.no _), ?_⟩
        refine ⟨_, false, (fun σ ι w1 hg hd hon => by
            have f11 := hd 11 (by decide) _ rfl
            have f14 := hd 14 (by decide) _ rfl
            have f8 := hd 8 (by decide) _ rfl
            have e11 : σ 11 = _ := f11.1 hon
            have e14 : σ 14 = _ := f14.1 hon
            have hgd : σ 8 = .bool true := hon
            have hm0 : ¬ m = 0 := (fact_on f8 hon).2
            obtain ⟨hA9, hlz, hcz, hEz⟩ := hrow hm0
            rw [hA9] at e11
            exact OpOK.sub (r := [(133, _), (136, _), (5, _), (6, _), (7, _), (8, _), (9, _), (11, _)]) ⟨congrArg some e11, congrArg some e14, rfl, rfl, rfl, rfl, rfl, rfl, trivial⟩ (by
              exact OpOK.eq (r_idx Try.underlying24 sz23 rfl rfl (i := y.inn.length) rfl hlz))
            ), (fun _ _ _ _ _ _ h => h), (FreeR.no _), ?_⟩
        refine ⟨_, false, (fun σ ι w1 hg hd hon => by
            have hN := hN.ofGr ((Gr.refl _).drew.trans hg)
            have hB5 := hB5.gr ((Gr.refl _).drew.trans hg)
            have hB8 := hB8.gr ((Gr.refl _).drew.trans hg)
            have hB9 := hB9.gr ((Gr.refl _).drew.trans hg)
            have f15 := hd 15 (by decide) _ rfl
            have f8 := hd 8 (by decide) _ rfl
            have e15 : σ 15 = _ := f15.1 hon
            have hgd : σ 8 = .bool true := hon
            have hm0 : ¬ m = 0 := (fact_on f8 hon).2
            obtain ⟨hA9, hlz, hcz, hEz⟩ := hrow hm0
            exact OpOK.sub (r := [(137, _), (5, _), (6, _), (7, _), (8, _), (9, _), (11, _)]) ⟨congrArg some e15, rfl, rfl, rfl, rfl, rfl, rfl, trivial⟩ (by
              exact OpOK.eq (r_load sc23 rfl (hN.sat.cell hcz)))
            ), (fun _ _ _ _ _ _ h => h), (FreeR.no _), ?_⟩
        refine ⟨_, false, (fun σ ι w1 hg hd hon => by
            have f8 := hd 8 (by decide) _ rfl
            have hgd : σ 8 = .bool true := hon
            exact OpOK.sub (r := [(5, _), (6, _), (7, _), (8, _), (9, _), (11, _)]) ⟨rfl, rfl, rfl, rfl, rfl, rfl, trivial⟩ (by
              exact OpOK.eq (r_fld fld28_2 rfl))
            ), (fun _ _ _ _ _ _ h => h), (FreeR.no _), ?_⟩
        refine ⟨_, false, (fun σ ι w1 hg hd hon => by
            have hN := hN.ofGr ((Gr.refl _).drew.trans hg)
            have hB5 := hB5.gr ((Gr.refl _).drew.trans hg)
            have hB8 := hB8.gr ((Gr.refl _).drew.trans hg)
            have hB9 := hB9.gr ((Gr.refl _).drew.trans hg)
            have f17 := hd 17 (by decide) _ rfl
            have f8 := hd 8 (by decide) _ rfl
            have e17 : σ 17 = _ := f17.1 hon
            have hgd : σ 8 = .bool true := hon
            exact OpOK.sub (r := [(139, _), (5, _), (6, _), (7, _), (8, _), (9, _), (11, _)]) ⟨congrArg some e17, rfl, rfl, rfl, rfl, rfl, rfl, trivial⟩ (by
              exact OpOK.eq (r_load sc23 rfl (hB5.cell rfl)))
            ), (fun _ _ _ _ _ _ h => h), (FreeR.no _), ?_⟩
        refine ⟨_, true, (fun σ ι w1 hg hd hon => by
            have hN := hN.ofGr ((Gr.refl _).drew.trans hg)
            have hB5 := hB5.gr ((Gr.refl _).drew.trans hg)
            have hB8 := hB8.gr ((Gr.refl _).drew.trans hg)
            have hB9 := hB9.gr ((Gr.refl _).drew.trans hg)
            have f16 := hd 16 (by decide) _ rfl
            have f18 := hd 18 (by decide) _ rfl
            have f8 := hd 8 (by decide) _ rfl
            have e16 : σ 16 = _ := f16.1 hon
            have e18 : σ 18 = _ := f18.1 hon
            have hgd : σ 8 = .bool true := hon
            have hm0 : ¬ m = 0 := (fact_on f8 hon).2
            obtain ⟨hA9, hlz, hcz, hEz⟩ := hrow hm0
            skip
            exact CallOK.sub (r := [(138, _), (140, _), (5, _), (6, _), (7, _), (8, _), (9, _), (11, _)]) ⟨congrArg some e16, congrArg some e18, rfl, rfl, rfl, rfl, rfl, rfl, trivial⟩ (by
              exact CallOK.V (enters_of rfl rfl hb27) (by have hz := rsame8 (c := cA) (c2 := cd) hN.sat hEz hq.de; exact hz))
            ), (fun _ _ _ _ _ _ h => h), (fun _ _ _ _ _ _ h => h), ?_⟩
        refine ⟨_, false, (fun σ ι w1 hg hd hon => by
            have f8 := hd 8 (by decide) _ rfl
            have f19 := hd 19 (by decide) _ rfl
            have f2 := hd 2 (by decide) _ rfl
            obtain ⟨e8, hm8⟩ := f8.1 hon
            have e2 : σ 2 = _ := f2.1 trivial
            have hgd : σ 2 = .bool false := hon
            have hgb := (f2.1 trivial : σ 2 = _).symm.trans hgd
            simp only [Value.bool.injEq] at hgb
            try simp only [decide_eq_true_eq, decide_eq_false_iff_not, Bool.or_eq_true, Bool.and_eq_true, Bool.or_eq_false_iff, Bool.and_eq_false_iff, Bool.not_eq_true', Bool.not_eq_false', Int.not_lt, Int.not_le, ne_eq, Decidable.not_not] at hgb
            have ec : σ 8 = _ := (f8.1 hon).1
            exact OpOK.id (by refine OpOK.and (dc := 130) (dy := 141) (kc := σ 8) (ky := σ 19) ?_ ?_ ec (fun hb => f19.1 (by show σ 8 = _; rw [ec]; exact congrArg Value.bool hb)) <;> rfl)
            ), (fun _ _ _ _ _ _ h => h), (FreeR.no _), ?_⟩
        refine ⟨_, false, (fun σ ι w1 hg hd hon => by
            have f2 := hd 2 (by decide) _ rfl
            have f20 := hd 20 (by decide) _ rfl
            have e2 : σ 2 = _ := f2.1 trivial
            have ec : σ 2 = _ := f2.1 trivial
            exact OpOK.id (by refine OpOK.or (dc := 124) (dy := 142) (kc := σ 2) (ky := σ 20) ?_ ?_ ec (fun hb => f20.1 (by show σ 2 = _; rw [ec]; exact congrArg Value.bool hb)) <;> rfl)
            ), (fun _ _ _ _ _ _ h => h), (FreeR.no _), ?_⟩
        refine ⟨_, false, (fun σ ι w1 hg hd hon => by
            have f21 := hd 21 (by decide) _ rfl
            have e21 : σ 21 = _ := f21.1 trivial
            exact OpOK.sub (r := [(143, _), (5, _), (6, _), (7, _), (8, _), (9, _), (11, _)]) ⟨congrArg some e21, rfl, rfl, rfl, rfl, rfl, rfl, trivial⟩ (by
              exact OpOK.eq (r_move rfl))
            ), (fun _ _ _ _ _ _ h => h), (FreeR.no _), ?_⟩
        refine ⟨_, false, (fun σ ι w1 hg hd hon => by
            have f22 := hd 22 (by decide) _ rfl
            have e22 : σ 22 = _ := f22.1 trivial
            have hgd : σ 22 = .bool true := hon
            have hgb := (f22.1 trivial : σ 22 = _).symm.trans hgd
            simp only [Value.bool.injEq] at hgb
            try simp only [decide_eq_true_eq, decide_eq_false_iff_not, Bool.or_eq_true, Bool.and_eq_true, Bool.or_eq_false_iff, Bool.and_eq_false_iff, Bool.not_eq_true', Bool.not_eq_false', Int.not_lt, Int.not_le, ne_eq, Decidable.not_not] at hgb
            exact OpOK.sub (r := [(5, _), (6, _), (7, _), (8, _), (9, _), (11, _)]) ⟨rfl, rfl, rfl, rfl, rfl, rfl, trivial⟩ (by
              exact OpOK.eq (r_move rfl))
            ), (fun _ _ _ _ _ _ h => h), (FreeR.no _), ?_⟩
        refine ⟨_, false, (fun σ ι w1 hg hd hon => by
            have f22 := hd 22 (by decide) _ rfl
            have f23 := hd 23 (by decide) _ rfl
            have e22 : σ 22 = _ := f22.1 trivial
            have ec : σ 22 = _ := f22.1 trivial
            exact OpOK.id (by refine OpOK.and (dc := 144) (dy := 145) (kc := σ 22) (ky := σ 23) ?_ ?_ ec (fun hb => f23.1 (by show σ 22 = _; rw [ec]; exact congrArg Value.bool hb)) <;> rfl)
            ), (fun _ _ _ _ _ _ h => h), (FreeR.no _), ?_⟩
        intro σ ι a43 w15 hgw15 H63 hd hap
        skip
        have hN0 := hN
        have hN := hN.ofGr ((Gr.refl _).drew.trans hgw15)
        replace hB5 := hB5.gr ((Gr.refl _).drew.trans hgw15)
        replace hB8 := hB8.gr ((Gr.refl _).drew.trans hgw15)
        replace hB9 := hB9.gr ((Gr.refl _).drew.trans hgw15)
        have e24 : σ 24 = _ := (hd 24 (by decide) _ rfl).1 trivial
        replace H63 := H63.sub (r := [(146, _), (5, _), (6, _), (7, _), (8, _), (9, _), (11, _)]) ⟨congrArg some e24, rfl, rfl, rfl, rfl, rfl, rfl, trivial⟩
        clear hd
        clear hap
        refine wl1 H63 (r_assign rfl) rfl rfl rfl rfl fun a44 H64 => ?_
        clear H63 a43
        refine wl_end ?_
        refine th_n ?_
        refine wpIn_ret ?_
        refine fin_r H64 (res1 rfl H64 rfl) ?_
        exact ⟨by first | rfl | (simp [hno.1, hno.2]; done) | (rcases Nat.eq_zero_or_pos m with h | h; simp [h]; simp [(hin3 (by omega)).1]), hN.gr⟩
end Go.Proofs.Ytjjpaghloaggeaa
