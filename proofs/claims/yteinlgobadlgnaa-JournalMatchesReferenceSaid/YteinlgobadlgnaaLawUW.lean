/- The law JournalUnique, walked. -/
import Derived.Test.YteinlgobadlgnaaLawB
set_option linter.unusedVariables false
set_option linter.unusedSimpArgs false
namespace Go.Proofs.Yteinlgobadlgnaa
open Go.RowKit


theorem Els.rowsIn {q : IntKind} {I : Im} {A : Option Addr} {xs : List (List Int)} (h : Els (kSl (kInt q)) I A xs) : ∀ r ∈ xs, ∀ x ∈ r, InK q x := by
  intro r hr
  obtain ⟨j, hj, rfl⟩ := List.mem_iff_getElem.1 hr
  obtain ⟨b, o, rfl⟩ := h.form (by omega)
  obtain ⟨A', c', _, _, hE⟩ := h.rowAt hj
  exact hE.inK
theorem jall_take {l : List Int} (hB : isB l) {rs : List (List Int)} {off : Nat} {key : Int} (hj : jall l 0 = ⟨rs, off, key⟩) : l.take off = chainB 0 rs ∧ off = lenR rs ∧ good rs ∧ off ≤ l.length := by
  have h := jall_bytes l.length l 0 (Nat.le_refl _) hB
  have h2 := @jall_off l 0
  rw [hj] at h h2
  exact ⟨h.1, h.2.1, h.2.2.1, h2.2⟩
theorem chain_inj {xs ys : List (List Int)} (hx : good xs) (hy : good ys) : chainB 0 xs = chainB 0 ys ↔ xs = ys := by
  constructor
  · intro e
    have h1 := jall_chain' (key := 0) hx
    have h2 := jall_chain' (key := 0) hy
    rw [e, h2] at h1
    injection h1 with h1
    exact h1.symm
  · intro e; rw [e]

set_option maxRecDepth 100000 in
set_option maxHeartbeats 1000000 in
theorem unique_ret {A B C : Option Addr} {c c2 c3 : Nat} {l : List Int} {xs ys : List (List Int)} {I : Im} {w : World} (hS : Sat I w) (hA : Els (kInt .u8) I A l) (hlc : l.length ≤ c) (hX : Els (kSl (kInt .i64)) I B xs) (hY : Els (kSl (kInt .i64)) I C ys) :
    Ret Try.prog 8 [.slice A l.length c, .slice B xs.length c2, .slice C ys.length c3] w (fun v w' => v = .bool true ∧ Gr w w') := by
  obtain ⟨rs, off, key, hj⟩ : ∃ rs off key, jall l 0 = ⟨rs, off, key⟩ := ⟨_, _, _, rfl⟩
  have hB0 : isB l := hA.inK
  obtain ⟨ht, hoff, hg, hol⟩ := jall_take hB0 hj
  have hr24 := @jall_off l 0
  rw [hj] at hr24
  dsimp only at hr24
  obtain ⟨wl, hwl⟩ : ∃ x, x = l.take off := ⟨_, rfl⟩
  have hwn : off = wl.length := by rw [hwl]; simp; omega
  have hwc : wl = chainB 0 rs := by rw [hwl, ht]
  have hjw : jall wl 0 = ⟨rs, wl.length, lastK 0 rs⟩ := by rw [hwc, jall_chain' hg, chainB_length]
  have hxk := hX.rowsIn
  have hyk := hY.rowsIn
  refine ret_of (N := 110) Try.func8 rfl rfl rfl fun a0 H0 => ?_
  have hN := New.refl hS
  simp only [argsEnv, Nat.zero_add, Nat.reduceAdd] at H0
  refine wpIn_seq ?_
  refine w_reg ?_
  refine wl1 H0 (r_assign rfl) rfl rfl rfl rfl fun a1 H1 => ?_
  clear H0 a0
  refine wl_end ?_
  refine th_n ?_
  refine wpIn_seq ?_
  refine w_reg ?_
  refine wlc  H1 rfl rfl hb9 rfl (examples_ret hN.sat) fun v w1 hR a2 H2 => ?_
  clear H1 a1
  obtain ⟨rfl, gw1⟩ := hR
  have hN := hN.ofGr gw1
  replace H2 := H2.known (t := 17) (b := true) rfl rfl
  refine wl1 H2 (r_assign rfl) rfl rfl rfl rfl fun a3 H3 => ?_
  clear H2 a2
  refine wl_end ?_
  refine th_n ?_
  refine wpIn_seq ?_
  refine wpIn_seq ?_
  refine w_reg ?_
  refine wl1 H3 (r_move rfl) rfl rfl rfl rfl fun a4 H4 => ?_
  clear H3 a3
  refine wl1 H4 (r_not rfl) rfl rfl rfl rfl fun a5 H5 => ?_
  clear H4 a4
  replace H5 := H5.known (t := 19) (b := false) rfl rfl
  refine wl_end ?_
  refine th_n ?_
  refine w_ff H5 rfl rfl ?_
  refine wpIn_skip ?_
  refine th_n ?_
  refine wpIn_seq ?_
  refine wpIn_seq ?_
  refine w_reg ?_
  refine wl1 H5 (r_move rfl) rfl rfl rfl rfl fun a6 H6 => ?_
  clear H5 a5
  refine wl1 H6 (r_len Try.underlying22 rfl) rfl rfl rfl rfl fun a7 H7 => ?_
  clear H6 a6
  refine wl1 H7 (r_gtr rfl rfl) rfl rfl rfl rfl fun a8 H8 => ?_
  clear H7 a7
  refine wl1 H8 (r_move rfl) rfl rfl rfl rfl fun a9 H9 => ?_
  clear H8 a8
  refine wl_split (t := 23) H9 rfl (fun hg4_3 H10 => ?_) (fun hg4_3 H10 => ?_)
  ·
    clear H9
    try simp only [decide_eq_true_eq, decide_eq_false_iff_not, Bool.or_eq_true, Bool.and_eq_true, Bool.or_eq_false_iff, Bool.and_eq_false_iff, Bool.not_eq_true', Bool.not_eq_false', Int.not_lt, Int.not_le, ne_eq, Decidable.not_not] at hg4_3
    refine wl_off (d := 23) H10 rfl rfl rfl rfl rfl rfl fun a10 H11 => ?_
    clear H10 a9
    refine wl_off (d := 23) H11 rfl rfl rfl rfl rfl rfl fun a11 H12 => ?_
    clear H11 a10
    refine wl_off (d := 23) H12 rfl rfl rfl rfl rfl rfl fun a12 H13 => ?_
    clear H12 a11
    refine wl1 H13 (r_pick_t rfl rfl) rfl rfl rfl rfl fun a13 H14 => ?_
    clear H13 a12
    refine wl1 H14 (r_move rfl) rfl rfl rfl rfl fun a14 H15 => ?_
    clear H14 a13
    refine wl_off (d := 28) H15 rfl rfl rfl rfl rfl rfl fun a15 H16 => ?_
    clear H15 a14
    refine wl_off (d := 28) H16 rfl rfl rfl rfl rfl rfl fun a16 H17 => ?_
    clear H16 a15
    refine wl_off (d := 28) H17 rfl rfl rfl rfl rfl rfl fun a17 H18 => ?_
    clear H17 a16
    refine wl1 H18 (r_pick_t rfl rfl) rfl rfl rfl rfl fun a18 H19 => ?_
    clear H18 a17
    refine wl_end ?_
    refine th_n ?_
    refine w_tt H19 rfl rfl ?_
    refine wpIn_seq ?_
    refine w_reg ?_
    refine wl1 H19 (r_move rfl) rfl rfl rfl rfl fun a19 H20 => ?_
    clear H19 a18
    refine wl1 H20 (r_assign rfl) rfl rfl rfl rfl fun a20 H21 => ?_
    clear H20 a19
    refine wl_end ?_
    refine th_n ?_
    refine wpIn_ret ?_
    refine th_r ?_
    refine fin_r H21 (res1 rfl H21 rfl) ?_
    exact ⟨rfl, hN.gr⟩
  ·
    clear H9
    try simp only [decide_eq_true_eq, decide_eq_false_iff_not, Bool.or_eq_true, Bool.and_eq_true, Bool.or_eq_false_iff, Bool.and_eq_false_iff, Bool.not_eq_true', Bool.not_eq_false', Int.not_lt, Int.not_le, ne_eq, Decidable.not_not] at hg4_3
    refine wl_on (d := 23) H10 rfl rfl rfl ?_
    refine wl1 H10 (r_move rfl) rfl rfl rfl rfl fun a10 H22 => ?_
    clear H10 a9
    refine wl_on (d := 23) H22 rfl rfl rfl ?_
    refine wlc  H22 rfl rfl hb10 rfl (rsmall hN.sat hX) fun v w2 hR a11 H23 => ?_
    clear H22 a10
    obtain ⟨rfl, gw2⟩ := hR
    have hN := hN.ofGr gw2
    refine wl_on (d := 23) H23 rfl rfl rfl ?_
    refine wl1 H23 (r_not rfl) rfl rfl rfl rfl fun a12 H24 => ?_
    clear H23 a11
    refine wl1 H24 (r_pick_f rfl rfl) rfl rfl rfl rfl fun a13 H25 => ?_
    clear H24 a12
    refine wl1 H25 (r_move rfl) rfl rfl rfl rfl fun a14 H26 => ?_
    clear H25 a13
    refine wl_split (t := 28) H26 rfl (fun hg4_8 H27 => ?_) (fun hg4_8 H27 => ?_)
    ·
      clear H26
      try simp only [decide_eq_true_eq, decide_eq_false_iff_not, Bool.or_eq_true, Bool.and_eq_true, Bool.or_eq_false_iff, Bool.and_eq_false_iff, Bool.not_eq_true', Bool.not_eq_false', Int.not_lt, Int.not_le, ne_eq, Decidable.not_not] at hg4_8
      refine wl_off (d := 28) H27 rfl rfl rfl rfl rfl rfl fun a15 H28 => ?_
      clear H27 a14
      refine wl_off (d := 28) H28 rfl rfl rfl rfl rfl rfl fun a16 H29 => ?_
      clear H28 a15
      refine wl_off (d := 28) H29 rfl rfl rfl rfl rfl rfl fun a17 H30 => ?_
      clear H29 a16
      refine wl1 H30 (r_pick_t rfl rfl) rfl rfl rfl rfl fun a18 H31 => ?_
      clear H30 a17
      refine wl_end ?_
      refine th_n ?_
      refine w_tt H31 rfl rfl ?_
      refine wpIn_seq ?_
      refine w_reg ?_
      refine wl1 H31 (r_move rfl) rfl rfl rfl rfl fun a19 H32 => ?_
      clear H31 a18
      refine wl1 H32 (r_assign rfl) rfl rfl rfl rfl fun a20 H33 => ?_
      clear H32 a19
      refine wl_end ?_
      refine th_n ?_
      refine wpIn_ret ?_
      refine th_r ?_
      refine fin_r H33 (res1 rfl H33 rfl) ?_
      exact ⟨rfl, hN.gr⟩
    ·
      clear H26
      try simp only [decide_eq_true_eq, decide_eq_false_iff_not, Bool.or_eq_true, Bool.and_eq_true, Bool.or_eq_false_iff, Bool.and_eq_false_iff, Bool.not_eq_true', Bool.not_eq_false', Int.not_lt, Int.not_le, ne_eq, Decidable.not_not] at hg4_8
      refine wl_on (d := 28) H27 rfl rfl rfl ?_
      refine wl1 H27 (r_move rfl) rfl rfl rfl rfl fun a15 H34 => ?_
      clear H27 a14
      refine wl_on (d := 28) H34 rfl rfl rfl ?_
      refine wlc  H34 rfl rfl hb10 rfl (rsmall hN.sat hY) fun v w3 hR a16 H35 => ?_
      clear H34 a15
      obtain ⟨rfl, gw3⟩ := hR
      have hN := hN.ofGr gw3
      refine wl_on (d := 28) H35 rfl rfl rfl ?_
      refine wl1 H35 (r_not rfl) rfl rfl rfl rfl fun a17 H36 => ?_
      clear H35 a16
      refine wl1 H36 (r_pick_f rfl rfl) rfl rfl rfl rfl fun a18 H37 => ?_
      clear H36 a17
      refine wl_end ?_
      refine th_n ?_
      first | refine w_if H37 rfl (fun hc32 => ?_) (fun hc32 => ?_) | refine w_cond H37 rfl (fun hc32 => ?_) (fun hc32 => ?_)
      ·
        try simp only [decide_eq_true_eq, decide_eq_false_iff_not, Bool.or_eq_true, Bool.and_eq_true, Bool.or_eq_false_iff, Bool.and_eq_false_iff, Bool.not_eq_true', Bool.not_eq_false', Int.not_lt, Int.not_le, ne_eq, Decidable.not_not] at hc32
        refine wpIn_seq ?_
        refine w_reg ?_
        refine wl1 H37 (r_move rfl) rfl rfl rfl rfl fun a19 H38 => ?_
        clear H37 a18
        refine wl1 H38 (r_assign rfl) rfl rfl rfl rfl fun a20 H39 => ?_
        clear H38 a19
        refine wl_end ?_
        refine th_n ?_
        refine wpIn_ret ?_
        refine th_r ?_
        refine fin_r H39 (res1 rfl H39 rfl) ?_
        exact ⟨rfl, hN.gr⟩
      ·
        try simp only [decide_eq_true_eq, decide_eq_false_iff_not, Bool.or_eq_true, Bool.and_eq_true, Bool.or_eq_false_iff, Bool.and_eq_false_iff, Bool.not_eq_true', Bool.not_eq_false', Int.not_lt, Int.not_le, ne_eq, Decidable.not_not] at hc32
        refine wpIn_skip ?_
        refine th_n ?_
        refine wpIn_seq ?_
        refine w_reg ?_
        refine wl1 H37 (r_move rfl) rfl rfl rfl rfl fun a19 H40 => ?_
        clear H37 a18
        refine wlc  H40 rfl rfl hb18 rfl (jwhole hN.sat hA hlc (by omega)) fun v w4 hR a20 H41 => ?_
        clear H40 a19
        obtain ⟨rfl, gw4⟩ := hR
        have hN := hN.ofGr gw4
        simp only [hj] at H41
        rw [hwn] at H41
        have hW : Els (kInt .u8) I A wl := by rw [hwl]; exact hA.take _
        have hwlc : wl.length ≤ c := by omega
        have hjf : jfold rs = wl := by rw [jfold_chain hg (by omega), hwc]
        refine wl1 H41 (r_assign rfl) rfl rfl rfl rfl fun a21 H42 => ?_
        clear H41 a20
        refine wl_end ?_
        refine th_n ?_
        refine wpIn_seq ?_
        refine w_reg ?_
        refine wl1 H42 (r_move rfl) rfl rfl rfl rfl fun a22 H43 => ?_
        clear H42 a21
        refine wlc  H43 rfl rfl hb12 rfl (lread hN.sat hW hwlc (by omega)) fun v w5 hR a23 H44 => ?_
        clear H43 a22
        obtain ⟨J5, nw5, ⟨A1, c1, A2, c2, rfl, hc1, hE1, hc2, hE2⟩⟩ := hR
        replace hA := hA.up nw5.le
        replace hX := hX.up nw5.le
        replace hY := hY.up nw5.le
        have hN := hN.trans nw5
        simp only [hjw] at H44 hE1 hE2 hc1 hc2
        replace hW := hW.up nw5.le
        refine wl1 H44 (r_move rfl) rfl rfl rfl rfl fun a24 H45 => ?_
        clear H44 a23
        refine wlc  H45 rfl rfl hb12 rfl (lread hN.sat hA hlc (by omega)) fun v w6 hR a25 H46 => ?_
        clear H45 a24
        obtain ⟨J6, nw6, ⟨A3, c3, A4, c4, rfl, hc3, hE3, hc4, hE4⟩⟩ := hR
        replace hA := hA.up nw6.le
        replace hX := hX.up nw6.le
        replace hY := hY.up nw6.le
        replace hE1 := hE1.up nw6.le
        replace hE2 := hE2.up nw6.le
        have hN := hN.trans nw6
        simp only [hj] at H46 hE3 hE4 hc3 hc4
        rw [hwn] at H46 hE4 hc4
        replace hW := hW.up nw6.le
        refine s_alloc H46 zv34 rfl hN fun w7 b9 hN gw7 hB9 hgeb9 heb9 a26 H47 => ?_
        clear H46 a25
        replace hB9 : Box _ _ _ [.slice none 0 0, .slice none 0 0, .int .i64 0, .int .i64 0, .int .u64 0] 34 := hB9
        refine s_alloc H47 zv34 rfl hN fun w8 b10 hN gw8 hB10 hgeb10 heb10 a27 H48 => ?_
        clear H47 a26
        replace hB10 : Box _ _ _ [.slice none 0 0, .slice none 0 0, .int .i64 0, .int .i64 0, .int .u64 0] 34 := hB10
        have hne_hB9_b10 := hB9.lt
        rw [← heb10] at hne_hB9_b10
        replace hB9 := hB9.gr gw8
        refine s_storeA (vs := [_, _, _, _, _]) H48 sz34 (by simp) (by simp [Value.oneCell']) rfl rfl hN hB9 (by simp) hgeb9 fun w9 hN hB9 ew9 H49 => ?_
        clear H48
        replace hB10 := hB10.otherE ew9 (by omega)
        simp only [Nat.zero_add, Nat.add_zero, Nat.reduceAdd, Nat.reduceMul, List.set_cons_zero, List.set_cons_succ, spliceL] at hB9
        clear ew9
        refine s_storeA (vs := [_, _, _, _, _]) H49 sz34 (by simp) (by simp [Value.oneCell']) rfl rfl hN hB10 (by simp) hgeb10 fun w10 hN hB10 ew10 H50 => ?_
        clear H49
        replace hB9 := hB9.otherE ew10 (by omega)
        simp only [Nat.zero_add, Nat.add_zero, Nat.reduceAdd, Nat.reduceMul, List.set_cons_zero, List.set_cons_succ, spliceL] at hB10
        clear ew10
        refine wl_end ?_
        refine th_n ?_
        refine wpIn_seq ?_
        refine w_reg ?_
        refine wl1 H50 (r_fld fld34_0 rfl) rfl rfl rfl rfl fun a28 H51 => ?_
        clear H50 a27
        refine wl1 H51 (r_load sc23 rfl (hB9.cell rfl)) rfl rfl rfl rfl fun a29 H52 => ?_
        clear H51 a28
        refine wlc  H52 rfl rfl hb22 rfl (lmade hN.sat hE1 (by omega)) fun v w11 hR a30 H53 => ?_
        clear H52 a29
        obtain ⟨J11, nw11, ⟨A5, c5, A6, c6, rfl, hc5, hE5, hc6, hE6⟩⟩ := hR
        replace hA := hA.up nw11.le
        replace hX := hX.up nw11.le
        replace hY := hY.up nw11.le
        replace hE1 := hE1.up nw11.le
        replace hE2 := hE2.up nw11.le
        replace hE3 := hE3.up nw11.le
        replace hE4 := hE4.up nw11.le
        replace hB9 := hB9.next nw11
        replace hB10 := hB10.next nw11
        have hN := hN.trans nw11
        rw [hjf] at H53 hE5 hc5
        replace hW := hW.up nw11.le
        refine wl1 H53 (r_move rfl) rfl rfl rfl rfl fun a31 H54 => ?_
        clear H53 a30
        refine wl1 H54 (r_extract rfl rfl) rfl rfl rfl rfl fun a32 H55 => ?_
        clear H54 a31
        refine wl1 H55 (r_extract rfl rfl) rfl rfl rfl rfl fun a33 H56 => ?_
        clear H55 a32
        refine wl1 H56 (r_assign rfl) rfl rfl rfl rfl fun a34 H57 => ?_
        clear H56 a33
        refine wl1 H57 (r_assign rfl) rfl rfl rfl rfl fun a35 H58 => ?_
        clear H57 a34
        refine wl_end ?_
        refine th_n ?_
        refine wpIn_seq ?_
        refine wpIn_seq ?_
        refine w_reg ?_
        refine wl1 H58 (r_fld fld34_2 rfl) rfl rfl rfl rfl fun a36 H59 => ?_
        clear H58 a35
        refine wl1 H59 (r_load sc31 rfl (hB9.cell rfl)) rfl rfl rfl rfl fun a37 H60 => ?_
        clear H59 a36
        refine wl1 H60 (r_neq rfl rfl) rfl rfl rfl rfl fun a38 H61 => ?_
        clear H60 a37
        replace H61 := H61.known (t := 48) (b := false) rfl (by simp)
        refine wl1 H61 (r_move rfl) rfl rfl rfl rfl fun a39 H62 => ?_
        clear H61 a38
        refine wl_on (d := 49) H62 rfl rfl rfl ?_
        refine wl1 H62 (r_fld fld34_1 rfl) rfl rfl rfl rfl fun a40 H63 => ?_
        clear H62 a39
        refine wl_on (d := 49) H63 rfl rfl rfl ?_
        refine wl1 H63 (r_load sc22 rfl (hB9.cell rfl)) rfl rfl rfl rfl fun a41 H64 => ?_
        clear H63 a40
        refine wl_on (d := 49) H64 rfl rfl rfl ?_
        refine wl1 H64 (r_len Try.underlying22 rfl) rfl rfl rfl rfl fun a42 H65 => ?_
        clear H64 a41
        refine wl_on (d := 49) H65 rfl rfl rfl ?_
        refine wl1 H65 (r_neq rfl rfl) rfl rfl rfl rfl fun a43 H66 => ?_
        clear H65 a42
        replace H66 := H66.known (t := 53) (b := false) rfl (by simp)
        refine wl1 H66 (r_pick_f rfl rfl) rfl rfl rfl rfl fun a44 H67 => ?_
        clear H66 a43
        refine wl1 H67 (r_move rfl) rfl rfl rfl rfl fun a45 H68 => ?_
        clear H67 a44
        refine wl_on (d := 55) H68 rfl rfl rfl ?_
        refine wl1 H68 (r_move rfl) rfl rfl rfl rfl fun a46 H69 => ?_
        clear H68 a45
        refine wl_on (d := 55) H69 rfl rfl rfl ?_
        refine wl1 H69 (r_move rfl) rfl rfl rfl rfl fun a47 H70 => ?_
        clear H69 a46
        refine wl_on (d := 55) H70 rfl rfl rfl ?_
        refine wlc  H70 rfl rfl hb17 rfl (rsame8 hN.sat hE5 hW) fun v w12 hR a48 H71 => ?_
        clear H70 a47
        obtain ⟨rfl, gw12⟩ := hR
        have hN := hN.ofGr gw12
        replace hB9 := hB9.gr gw12
        replace hB10 := hB10.gr gw12
        refine wl_on (d := 55) H71 rfl rfl rfl ?_
        refine wl1 H71 (r_not rfl) rfl rfl rfl rfl fun a49 H72 => ?_
        clear H71 a48
        replace H72 := H72.known (t := 59) (b := false) rfl (by simp)
        refine wl1 H72 (r_pick_f rfl rfl) rfl rfl rfl rfl fun a50 H73 => ?_
        clear H72 a49
        refine wl1 H73 (r_move rfl) rfl rfl rfl rfl fun a51 H74 => ?_
        clear H73 a50
        refine wl_on (d := 61) H74 rfl rfl rfl ?_
        refine wl1 H74 (r_fld fld34_0 rfl) rfl rfl rfl rfl fun a52 H75 => ?_
        clear H74 a51
        refine wl_on (d := 61) H75 rfl rfl rfl ?_
        refine wl1 H75 (r_load sc23 rfl (hB10.cell rfl)) rfl rfl rfl rfl fun a53 H76 => ?_
        clear H75 a52
        refine wl_on (d := 61) H76 rfl rfl rfl ?_
        refine wl1 H76 (r_fld fld34_0 rfl) rfl rfl rfl rfl fun a54 H77 => ?_
        clear H76 a53
        refine wl_on (d := 61) H77 rfl rfl rfl ?_
        refine wl1 H77 (r_load sc23 rfl (hB9.cell rfl)) rfl rfl rfl rfl fun a55 H78 => ?_
        clear H77 a54
        refine wl_on (d := 61) H78 rfl rfl rfl ?_
        refine wlc  H78 rfl rfl hb16 rfl (rrecords hN.sat hE3 hE1) fun v w13 hR a56 H79 => ?_
        clear H78 a55
        obtain ⟨rfl, gw13⟩ := hR
        have hN := hN.ofGr gw13
        replace hB9 := hB9.gr gw13
        replace hB10 := hB10.gr gw13
        refine wl_on (d := 61) H79 rfl rfl rfl ?_
        refine wl1 H79 (r_not rfl) rfl rfl rfl rfl fun a57 H80 => ?_
        clear H79 a56
        replace H80 := H80.known (t := 67) (b := false) rfl (by simp)
        refine wl1 H80 (r_pick_f rfl rfl) rfl rfl rfl rfl fun a58 H81 => ?_
        clear H80 a57
        refine wl1 H81 (r_move rfl) rfl rfl rfl rfl fun a59 H82 => ?_
        clear H81 a58
        refine wl_on (d := 69) H82 rfl rfl rfl ?_
        refine wl1 H82 (r_move rfl) rfl rfl rfl rfl fun a60 H83 => ?_
        clear H82 a59
        refine wl_on (d := 69) H83 rfl rfl rfl ?_
        refine wl1 H83 (r_len Try.underlying22 rfl) rfl rfl rfl rfl fun a61 H84 => ?_
        clear H83 a60
        refine wl_on (d := 69) H84 rfl rfl rfl ?_
        refine wl1 H84 (r_fld fld34_1 rfl) rfl rfl rfl rfl fun a62 H85 => ?_
        clear H84 a61
        refine wl_on (d := 69) H85 rfl rfl rfl ?_
        refine wl1 H85 (r_load sc22 rfl (hB10.cell rfl)) rfl rfl rfl rfl fun a63 H86 => ?_
        clear H85 a62
        refine wl_on (d := 69) H86 rfl rfl rfl ?_
        refine wl1 H86 (r_len Try.underlying22 rfl) rfl rfl rfl rfl fun a64 H87 => ?_
        clear H86 a63
        refine wl_on (d := 69) H87 rfl rfl rfl ?_
        first | refine wl1 H87 (r_addk rfl rfl (by simp only [InK]; omega)) rfl rfl rfl rfl fun a65 H88 => ?_ | refine wl1 H87 (r_add rfl rfl) rfl rfl rfl rfl fun a65 H88 => ?_
        clear H87 a64
        refine wl_on (d := 69) H88 rfl rfl rfl ?_
        refine wl1 H88 (r_move rfl) rfl rfl rfl rfl fun a66 H89 => ?_
        clear H88 a65
        refine wl_on (d := 69) H89 rfl rfl rfl ?_
        refine wl1 H89 (r_len Try.underlying22 rfl) rfl rfl rfl rfl fun a67 H90 => ?_
        clear H89 a66
        refine wl_on (d := 69) H90 rfl rfl rfl ?_
        refine wl1 H90 (r_neq rfl rfl) rfl rfl rfl rfl fun a68 H91 => ?_
        clear H90 a67
        replace H91 := H91.known (t := 78) (b := false) rfl (by rw [decide_eq_false_iff_not]; omega)
        refine wl1 H91 (r_pick_f rfl rfl) rfl rfl rfl rfl fun a69 H92 => ?_
        clear H91 a68
        refine wl1 H92 (r_move rfl) rfl rfl rfl rfl fun a70 H93 => ?_
        clear H92 a69
        refine wl_on (d := 80) H93 rfl rfl rfl ?_
        refine wl1 H93 (r_fld fld34_2 rfl) rfl rfl rfl rfl fun a71 H94 => ?_
        clear H93 a70
        refine wl_on (d := 80) H94 rfl rfl rfl ?_
        refine wl1 H94 (r_load sc31 rfl (hB10.cell rfl)) rfl rfl rfl rfl fun a72 H95 => ?_
        clear H94 a71
        refine wl_on (d := 80) H95 rfl rfl rfl ?_
        refine wl1 H95 (r_eql rfl rfl) rfl rfl rfl rfl fun a73 H96 => ?_
        clear H95 a72
        refine wl_on (d := 80) H96 rfl rfl rfl ?_
        refine wl1 H96 (r_fld fld34_1 rfl) rfl rfl rfl rfl fun a74 H97 => ?_
        clear H96 a73
        refine wl_on (d := 80) H97 rfl rfl rfl ?_
        refine wl1 H97 (r_load sc22 rfl (hB10.cell rfl)) rfl rfl rfl rfl fun a75 H98 => ?_
        clear H97 a74
        refine wl_on (d := 80) H98 rfl rfl rfl ?_
        refine wl1 H98 (r_len Try.underlying22 rfl) rfl rfl rfl rfl fun a76 H99 => ?_
        clear H98 a75
        refine wl_on (d := 80) H99 rfl rfl rfl ?_
        refine wl1 H99 (r_eql rfl rfl) rfl rfl rfl rfl fun a77 H100 => ?_
        clear H99 a76
        refine wl_on (d := 80) H100 rfl rfl rfl ?_
        refine wl1 H100 (r_neb Try.underlying4 rfl rfl) rfl rfl rfl rfl fun a78 H101 => ?_
        clear H100 a77
        replace H101 := H101.known (t := 88) (b := false) rfl (by by_cases h : wl.length < l.length <;> simp [h] <;> omega)
        refine wl1 H101 (r_pick_f rfl rfl) rfl rfl rfl rfl fun a79 H102 => ?_
        clear H101 a78
        refine wl_end ?_
        refine th_n ?_
        refine w_ff H102 rfl rfl ?_
        refine wpIn_skip ?_
        refine th_n ?_
        refine wpIn_seq ?_
        refine w_reg ?_
        refine wl1 H102 (r_move rfl) rfl rfl rfl rfl fun a80 H103 => ?_
        clear H102 a79
        refine wlc  H103 rfl rfl hb22 rfl (lmade hN.sat hX (by have := (small_len hg4_8).1; omega)) fun v w14 hR a81 H104 => ?_
        clear H103 a80
        obtain ⟨J14, nw14, ⟨A7, c7, A8, c8, rfl, hc7, hE7, hc8, hE8⟩⟩ := hR
        replace hA := hA.up nw14.le
        replace hX := hX.up nw14.le
        replace hY := hY.up nw14.le
        replace hE1 := hE1.up nw14.le
        replace hE2 := hE2.up nw14.le
        replace hE3 := hE3.up nw14.le
        replace hE4 := hE4.up nw14.le
        replace hE5 := hE5.up nw14.le
        replace hB9 := hB9.next nw14
        replace hB10 := hB10.next nw14
        have hN := hN.trans nw14
        refine wl1 H104 (r_move rfl) rfl rfl rfl rfl fun a82 H105 => ?_
        clear H104 a81
        refine wl1 H105 (r_extract rfl rfl) rfl rfl rfl rfl fun a83 H106 => ?_
        clear H105 a82
        refine wl1 H106 (r_extract rfl rfl) rfl rfl rfl rfl fun a84 H107 => ?_
        clear H106 a83
        refine wl1 H107 (r_assign rfl) rfl rfl rfl rfl fun a85 H108 => ?_
        clear H107 a84
        refine wl1 H108 (r_assign rfl) rfl rfl rfl rfl fun a86 H109 => ?_
        clear H108 a85
        refine wl_end ?_
        refine th_n ?_
        refine wpIn_seq ?_
        refine w_reg ?_
        refine wl1 H109 (r_move rfl) rfl rfl rfl rfl fun a87 H110 => ?_
        clear H109 a86
        refine wlc  H110 rfl rfl hb22 rfl (lmade hN.sat hY (by have := (small_len hc32).1; omega)) fun v w15 hR a88 H111 => ?_
        clear H110 a87
        obtain ⟨J15, nw15, ⟨A9, c9, A10, c10, rfl, hc9, hE9, hc10, hE10⟩⟩ := hR
        replace hA := hA.up nw15.le
        replace hX := hX.up nw15.le
        replace hY := hY.up nw15.le
        replace hE1 := hE1.up nw15.le
        replace hE2 := hE2.up nw15.le
        replace hE3 := hE3.up nw15.le
        replace hE4 := hE4.up nw15.le
        replace hE5 := hE5.up nw15.le
        replace hE7 := hE7.up nw15.le
        replace hB9 := hB9.next nw15
        replace hB10 := hB10.next nw15
        have hN := hN.trans nw15
        refine wl1 H111 (r_move rfl) rfl rfl rfl rfl fun a89 H112 => ?_
        clear H111 a88
        refine wl1 H112 (r_extract rfl rfl) rfl rfl rfl rfl fun a90 H113 => ?_
        clear H112 a89
        refine wl1 H113 (r_extract rfl rfl) rfl rfl rfl rfl fun a91 H114 => ?_
        clear H113 a90
        refine wl1 H114 (r_assign rfl) rfl rfl rfl rfl fun a92 H115 => ?_
        clear H114 a91
        refine wl1 H115 (r_assign rfl) rfl rfl rfl rfl fun a93 H116 => ?_
        clear H115 a92
        refine wl_end ?_
        refine th_n ?_
        refine wpIn_seq ?_
        refine w_reg ?_
        refine wl1 H116 (r_move rfl) rfl rfl rfl rfl fun a94 H117 => ?_
        clear H116 a93
        refine wl1 H117 (r_move rfl) rfl rfl rfl rfl fun a95 H118 => ?_
        clear H117 a94
        refine wlc  H118 rfl rfl hb17 rfl (rsame8 hN.sat hE7 hE9) fun v w16 hR a96 H119 => ?_
        clear H118 a95
        obtain ⟨rfl, gw16⟩ := hR
        have hN := hN.ofGr gw16
        replace hB9 := hB9.gr gw16
        replace hB10 := hB10.gr gw16
        refine wl1 H119 (r_move rfl) rfl rfl rfl rfl fun a97 H120 => ?_
        clear H119 a96
        refine wl1 H120 (r_move rfl) rfl rfl rfl rfl fun a98 H121 => ?_
        clear H120 a97
        refine wlc  H121 rfl rfl hb16 rfl (rrecords hN.sat hX hY) fun v w17 hR a99 H122 => ?_
        clear H121 a98
        obtain ⟨rfl, gw17⟩ := hR
        have hN := hN.ofGr gw17
        replace hB9 := hB9.gr gw17
        replace hB10 := hB10.gr gw17
        refine wl1 H122 (r_eqb Try.underlying4 rfl rfl) rfl rfl rfl rfl fun a100 H123 => ?_
        clear H122 a99
        replace H123 := H123.known (t := 106) (b := true) rfl (by rw [small_jfold hg4_8 hxk, small_jfold hc32 hyk]; simp [chain_inj (small_good hg4_8 hxk) (small_good hc32 hyk)])
        refine wl1 H123 (r_move rfl) rfl rfl rfl rfl fun a101 H124 => ?_
        clear H123 a100
        refine wl_on (d := 107) H124 rfl rfl rfl ?_
        refine wl1 H124 (r_move rfl) rfl rfl rfl rfl fun a102 H125 => ?_
        clear H124 a101
        refine wl1 H125 (r_pick_t rfl rfl) rfl rfl rfl rfl fun a103 H126 => ?_
        clear H125 a102
        refine wl1 H126 (r_assign rfl) rfl rfl rfl rfl fun a104 H127 => ?_
        clear H126 a103
        refine wl_end ?_
        refine th_n ?_
        refine wpIn_ret ?_
        refine fin_r H127 (res1 rfl H127 rfl) ?_
        exact ⟨rfl, hN.gr⟩
end Go.Proofs.Yteinlgobadlgnaa
