/- The law DigestMatchesReference, walked. -/
import Derived.Test.YtlikefnngkokhaaDigB
set_option linter.unusedVariables false
set_option linter.unusedSimpArgs false
namespace Go.Proofs.Ytlikefnngkokhaa
open Go.RowKit


def PP (d : List Int) (z : Int) (J : Im) (v : Value) : Prop := ∃ A' c', v = .agg #[.slice A' (dpathI d z).length c', .int .i64 (dpathE d z)] ∧ (dpathI d z).length ≤ c' ∧ Els (kInt .u64) J A' (dpathI d z)
theorem br_pathOfΦ {A : Option Addr} {l : List Int} {c : Nat} {I : Im} {w : World} {i : Int} (hS : Sat I w) (h : Els (kInt .u64) I A l) (hl : l.length ≤ 1048576) (hc : l.length ≤ c) : Ret Try.prog 11 [.slice A l.length c, .int .i64 i] w (fun u w' => ∃ K, New I w K w' ∧ PP l i K u) := br_pathOf hS h hl hc
theorem rpathΦ {A : Option Addr} {l : List Int} {c : Nat} {I : Im} {w : World} {i : Int} (hS : Sat I w) (h : Els (kInt .u64) I A l) (hl : l.length ≤ 1048576) (hc : l.length ≤ c) : Ret Try.prog 26 [.slice A l.length c, .int .i64 i] w (fun u w' => ∃ K, New I w K w' ∧ PP l i K u) := rpath hS h hl hc

set_option maxRecDepth 100000 in
set_option maxHeartbeats 2000000 in
theorem matches_ret {A B C : Option Addr} {c c2 cp : Nat} {l bs p : List Int} {a b n i dd q : Int} {I : Im} {w : World} (hS : Sat I w) (hA : Els (kInt .i64) I A l) (hlc : l.length ≤ c) (hE0 : Els (kInt .u8) I B bs) (hbc : bs.length ≤ c2) (hP : Els (kInt .u64) I C p) (hpc : p.length ≤ cp) (hq : 0 ≤ q ∧ q ≤ 65535) :
    Ret Try.prog 7 [.slice A l.length c, .slice B bs.length c2, .agg #[.int .u64 a, .int .u64 b, .int .i64 n, .slice C p.length cp, .int .i64 i, .int .u64 dd, .int .u16 q]] w (fun v w' => v = .bool true ∧ Gr w w') := by
  obtain ⟨n0, hn0⟩ : ∃ m : Nat, q % 300 = (m : Int) := ⟨(q % 300).toNat, by omega⟩
  have hn1 : n0 < 300 := by omega
  refine ret_of (N := 177) Try.func7 rfl rfl rfl fun a0 H0 => ?_
  have hN := New.refl hS
  simp only [argsEnv, Nat.zero_add, Nat.reduceAdd] at H0
  refine wpIn_seq ?_
  refine w_reg ?_
  refine s_box H0 rfl rfl hN fun w1 b5 hN gw1 hB5 hgeb5 heb5 a1 H1 => ?_
  clear H0 a0
  replace hB5 : Box _ _ _ [_, _, _, _, _, _, _] 50 := hB5
  refine wl1 H1 (r_assign rfl) rfl rfl rfl rfl fun a2 H2 => ?_
  clear H1 a1
  refine wl_end ?_
  refine th_n ?_
  refine wpIn_seq ?_
  refine w_reg ?_
  refine wlc  H2 rfl rfl hb9 rfl (br_ex hN.sat) fun v w2 hR a3 H3 => ?_
  clear H2 a2
  obtain ⟨rfl, gw2⟩ := hR
  have hN := hN.ofGr gw2
  replace hB5 := hB5.gr gw2
  replace H3 := H3.known (t := 15) (b := true) rfl rfl
  refine wl1 H3 (r_assign rfl) rfl rfl rfl rfl fun a4 H4 => ?_
  clear H3 a3
  refine wl_end ?_
  refine th_n ?_
  refine wpIn_seq ?_
  refine wpIn_seq ?_
  refine w_reg ?_
  refine wl1 H4 (r_move rfl) rfl rfl rfl rfl fun a5 H5 => ?_
  clear H4 a4
  refine wl1 H5 (r_not rfl) rfl rfl rfl rfl fun a6 H6 => ?_
  clear H5 a5
  replace H6 := H6.known (t := 17) (b := false) rfl rfl
  refine wl_end ?_
  refine th_n ?_
  refine w_ff H6 rfl rfl ?_
  refine wpIn_skip ?_
  refine th_n ?_
  refine wpIn_seq ?_
  refine wpIn_seq ?_
  refine w_reg ?_
  refine wl1 H6 (r_move rfl) rfl rfl rfl rfl fun a7 H7 => ?_
  clear H6 a6
  refine wl1 H7 (r_len Try.underlying47 rfl) rfl rfl rfl rfl fun a8 H8 => ?_
  clear H7 a7
  refine wl1 H8 (r_gtr rfl rfl) rfl rfl rfl rfl fun a9 H9 => ?_
  clear H8 a8
  refine wl1 H9 (r_move rfl) rfl rfl rfl rfl fun a10 H10 => ?_
  clear H9 a9
  refine wl_split (t := 21) H10 rfl (fun hg4_3 H11 => ?_) (fun hg4_3 H11 => ?_)
  ·
    clear H10
    try simp only [decide_eq_true_eq, decide_eq_false_iff_not, Bool.or_eq_true, Bool.and_eq_true, Bool.or_eq_false_iff, Bool.and_eq_false_iff, Bool.not_eq_true', Bool.not_eq_false', Int.not_lt, Int.not_le, ne_eq, Decidable.not_not] at hg4_3
    refine wl_off (d := 21) H11 rfl rfl rfl rfl rfl rfl fun a11 H12 => ?_
    clear H11 a10
    refine wl_off (d := 21) H12 rfl rfl rfl rfl rfl rfl fun a12 H13 => ?_
    clear H12 a11
    refine wl_off (d := 21) H13 rfl rfl rfl rfl rfl rfl fun a13 H14 => ?_
    clear H13 a12
    refine wl1 H14 (r_pick_t rfl rfl) rfl rfl rfl rfl fun a14 H15 => ?_
    clear H14 a13
    refine wl1 H15 (r_move rfl) rfl rfl rfl rfl fun a15 H16 => ?_
    clear H15 a14
    refine wl_off (d := 26) H16 rfl rfl rfl rfl rfl rfl fun a16 H17 => ?_
    clear H16 a15
    refine wl_off (d := 26) H17 rfl rfl rfl rfl rfl rfl fun a17 H18 => ?_
    clear H17 a16
    refine wl_off (d := 26) H18 rfl rfl rfl rfl rfl rfl fun a18 H19 => ?_
    clear H18 a17
    refine wl_off (d := 26) H19 rfl rfl rfl rfl rfl rfl fun a19 H20 => ?_
    clear H19 a18
    refine wl_off (d := 26) H20 rfl rfl rfl rfl rfl rfl fun a20 H21 => ?_
    clear H20 a19
    refine wl1 H21 (r_pick_t rfl rfl) rfl rfl rfl rfl fun a21 H22 => ?_
    clear H21 a20
    refine wl_end ?_
    refine th_n ?_
    refine w_tt H22 rfl rfl ?_
    refine wpIn_seq ?_
    refine w_reg ?_
    refine wl1 H22 (r_move rfl) rfl rfl rfl rfl fun a22 H23 => ?_
    clear H22 a21
    refine wl1 H23 (r_assign rfl) rfl rfl rfl rfl fun a23 H24 => ?_
    clear H23 a22
    refine wl_end ?_
    refine th_n ?_
    refine wpIn_ret ?_
    refine th_r ?_
    refine fin_r H24 (res1 rfl H24 rfl) ?_
    exact ⟨rfl, hN.gr⟩
  ·
    clear H10
    try simp only [decide_eq_true_eq, decide_eq_false_iff_not, Bool.or_eq_true, Bool.and_eq_true, Bool.or_eq_false_iff, Bool.and_eq_false_iff, Bool.not_eq_true', Bool.not_eq_false', Int.not_lt, Int.not_le, ne_eq, Decidable.not_not] at hg4_3
    refine wl_on (d := 21) H11 rfl rfl rfl ?_
    refine wl1 H11 (r_move rfl) rfl rfl rfl rfl fun a11 H25 => ?_
    clear H11 a10
    refine wl_on (d := 21) H25 rfl rfl rfl ?_
    refine wl1 H25 (r_len Try.underlying48 rfl) rfl rfl rfl rfl fun a12 H26 => ?_
    clear H25 a11
    refine wl_on (d := 21) H26 rfl rfl rfl ?_
    refine wl1 H26 (r_gtr rfl rfl) rfl rfl rfl rfl fun a13 H27 => ?_
    clear H26 a12
    refine wl1 H27 (r_pick_f rfl rfl) rfl rfl rfl rfl fun a14 H28 => ?_
    clear H27 a13
    refine wl1 H28 (r_move rfl) rfl rfl rfl rfl fun a15 H29 => ?_
    clear H28 a14
    refine wl_split (t := 26) H29 rfl (fun hg4_8 H30 => ?_) (fun hg4_8 H30 => ?_)
    ·
      clear H29
      try simp only [decide_eq_true_eq, decide_eq_false_iff_not, Bool.or_eq_true, Bool.and_eq_true, Bool.or_eq_false_iff, Bool.and_eq_false_iff, Bool.not_eq_true', Bool.not_eq_false', Int.not_lt, Int.not_le, ne_eq, Decidable.not_not] at hg4_8
      refine wl_off (d := 26) H30 rfl rfl rfl rfl rfl rfl fun a16 H31 => ?_
      clear H30 a15
      refine wl_off (d := 26) H31 rfl rfl rfl rfl rfl rfl fun a17 H32 => ?_
      clear H31 a16
      refine wl_off (d := 26) H32 rfl rfl rfl rfl rfl rfl fun a18 H33 => ?_
      clear H32 a17
      refine wl_off (d := 26) H33 rfl rfl rfl rfl rfl rfl fun a19 H34 => ?_
      clear H33 a18
      refine wl_off (d := 26) H34 rfl rfl rfl rfl rfl rfl fun a20 H35 => ?_
      clear H34 a19
      refine wl1 H35 (r_pick_t rfl rfl) rfl rfl rfl rfl fun a21 H36 => ?_
      clear H35 a20
      refine wl_end ?_
      refine th_n ?_
      refine w_tt H36 rfl rfl ?_
      refine wpIn_seq ?_
      refine w_reg ?_
      refine wl1 H36 (r_move rfl) rfl rfl rfl rfl fun a22 H37 => ?_
      clear H36 a21
      refine wl1 H37 (r_assign rfl) rfl rfl rfl rfl fun a23 H38 => ?_
      clear H37 a22
      refine wl_end ?_
      refine th_n ?_
      refine wpIn_ret ?_
      refine th_r ?_
      refine fin_r H38 (res1 rfl H38 rfl) ?_
      exact ⟨rfl, hN.gr⟩
    ·
      clear H29
      try simp only [decide_eq_true_eq, decide_eq_false_iff_not, Bool.or_eq_true, Bool.and_eq_true, Bool.or_eq_false_iff, Bool.and_eq_false_iff, Bool.not_eq_true', Bool.not_eq_false', Int.not_lt, Int.not_le, ne_eq, Decidable.not_not] at hg4_8
      refine wl_on (d := 26) H30 rfl rfl rfl ?_
      refine wl1 H30 (r_fld fld50_2 rfl) rfl rfl rfl rfl fun a16 H39 => ?_
      clear H30 a15
      refine wl_on (d := 26) H39 rfl rfl rfl ?_
      refine wl1 H39 (r_fld fld36_1 rfl) rfl rfl rfl rfl fun a17 H40 => ?_
      clear H39 a16
      refine wl_on (d := 26) H40 rfl rfl rfl ?_
      refine wl1 H40 (r_load sc22 rfl (hB5.cell rfl)) rfl rfl rfl rfl fun a18 H41 => ?_
      clear H40 a17
      refine wl_on (d := 26) H41 rfl rfl rfl ?_
      refine wl1 H41 (r_len Try.underlying22 rfl) rfl rfl rfl rfl fun a19 H42 => ?_
      clear H41 a18
      refine wl_on (d := 26) H42 rfl rfl rfl ?_
      refine wl1 H42 (r_gtr rfl rfl) rfl rfl rfl rfl fun a20 H43 => ?_
      clear H42 a19
      refine wl1 H43 (r_pick_f rfl rfl) rfl rfl rfl rfl fun a21 H44 => ?_
      clear H43 a20
      refine wl_end ?_
      refine th_n ?_
      first | refine w_if H44 rfl (fun hc32 => ?_) (fun hc32 => ?_) | refine w_cond H44 rfl (fun hc32 => ?_) (fun hc32 => ?_)
      ·
        try simp only [decide_eq_true_eq, decide_eq_false_iff_not, Bool.or_eq_true, Bool.and_eq_true, Bool.or_eq_false_iff, Bool.and_eq_false_iff, Bool.not_eq_true', Bool.not_eq_false', Int.not_lt, Int.not_le, ne_eq, Decidable.not_not] at hc32
        refine wpIn_seq ?_
        refine w_reg ?_
        refine wl1 H44 (r_move rfl) rfl rfl rfl rfl fun a22 H45 => ?_
        clear H44 a21
        refine wl1 H45 (r_assign rfl) rfl rfl rfl rfl fun a23 H46 => ?_
        clear H45 a22
        refine wl_end ?_
        refine th_n ?_
        refine wpIn_ret ?_
        refine th_r ?_
        refine fin_r H46 (res1 rfl H46 rfl) ?_
        exact ⟨rfl, hN.gr⟩
      ·
        try simp only [decide_eq_true_eq, decide_eq_false_iff_not, Bool.or_eq_true, Bool.and_eq_true, Bool.or_eq_false_iff, Bool.and_eq_false_iff, Bool.not_eq_true', Bool.not_eq_false', Int.not_lt, Int.not_le, ne_eq, Decidable.not_not] at hc32
        refine wpIn_skip ?_
        refine th_n ?_
        refine wpIn_seq ?_
        refine w_reg ?_
        refine wl1 H44 (r_fld fld50_2 rfl) rfl rfl rfl rfl fun a22 H47 => ?_
        clear H44 a21
        refine wl1 H47 (r_fld fld36_1 rfl) rfl rfl rfl rfl fun a23 H48 => ?_
        clear H47 a22
        refine wl1 H48 (r_load sc22 rfl (hB5.cell rfl)) rfl rfl rfl rfl fun a24 H49 => ?_
        clear H48 a23
        refine wl1 H49 (r_fld fld50_4 rfl) rfl rfl rfl rfl fun a25 H50 => ?_
        clear H49 a24
        refine wl1 H50 (r_load sc23 rfl (hB5.cell rfl)) rfl rfl rfl rfl fun a26 H51 => ?_
        clear H50 a25
        refine wl1 H51 (r_remk rfl rfl (by omega) (by omega)) rfl rfl rfl rfl fun a27 H52 => ?_
        clear H51 a26
        rw [hn0] at H52
        first | refine wl1 H52 (r_convk Try.underlying23 Try.underlying3 rfl (by simp only [InK]; omega)) rfl rfl rfl rfl fun a28 H53 => ?_ | refine wl1 H52 (r_conv Try.underlying23 Try.underlying3 rfl) rfl rfl rfl rfl fun a28 H53 => ?_
        clear H52 a27
        refine wlc  H53 rfl rfl hb10 rfl (br_grown (n := n0) hN.sat hP hpc (by omega) rfl) fun v w3 hR a29 H54 => ?_
        clear H53 a28
        obtain ⟨J3, nw3, ⟨A1, c1, rfl, hc1, hE1⟩⟩ := hR
        replace hA := hA.up nw3.le
        replace hE0 := hE0.up nw3.le
        replace hP := hP.up nw3.le
        replace hB5 := hB5.next nw3
        have hN := hN.trans nw3
        obtain ⟨d, hd⟩ : ∃ d, d = dgrown p n0 := ⟨_, rfl⟩
        have hdl : d.length = n0 := by rw [hd]; exact dgrown_len _ _
        rw [← hd] at H54 hE1 hc1
        refine wl1 H54 (r_assign rfl) rfl rfl rfl rfl fun a30 H55 => ?_
        clear H54 a29
        refine wl_end ?_
        refine th_n ?_
        refine wpIn_seq ?_
        refine wpIn_seq ?_
        have hS0 := hN.sat
        have hNsz7 := hN.gr.size
        refine w_drawE (m := 43) (l0 := [(0, _), (1, _), (5, _), (6, _), (7, _), (8, _)]) hfol H55 ⟨rfl, rfl, rfl, rfl, rfl, rfl, trivial⟩ (by kernel_rfl) ?_
        refine ⟨_, false, (fun σ ι w1 hg hd hon => by
            exact OpOK.sub (r := [(0, _), (1, _), (5, _), (6, _), (7, _), (8, _)]) ⟨rfl, rfl, rfl, rfl, rfl, rfl, trivial⟩ (by
              exact OpOK.eq (r_move rfl))
            ), (fun _ _ _ _ _ _ h => h), (FreeR.no _), ?_⟩
        refine ⟨_, true, (fun σ ι w1 hg hd hon => by
            have hN := hN.ofGr ((Gr.refl _).drew.trans hg)
            have hB5 := hB5.gr ((Gr.refl _).drew.trans hg)
            have f0 := hd 0 (by decide) _ rfl
            have e0 : σ 0 = _ := f0.1 trivial
            skip
            exact CallOK.sub (r := [(42, _), (0, _), (1, _), (5, _), (6, _), (7, _), (8, _)]) ⟨congrArg some e0, rfl, rfl, rfl, rfl, rfl, rfl, trivial⟩ (by
              exact CallOK.V (enters_of rfl rfl hb17) (words_ret hN.sat hA))
            ), (fun _ _ _ _ _ _ h => h), (fun _ _ _ _ _ _ h => h), ?_⟩
        refine ⟨_, false, (fun σ ι w1 hg hd hon => by
            exact OpOK.sub (r := [(0, _), (1, _), (5, _), (6, _), (7, _), (8, _)]) ⟨rfl, rfl, rfl, rfl, rfl, rfl, trivial⟩ (by
              exact OpOK.eq (r_move rfl))
            ), (fun _ _ _ _ _ _ h => h), (FreeR.no _), ?_⟩
        refine ⟨_, true, (fun σ ι w1 hg hd hon => by
            have hN := hN.ofGr ((Gr.refl _).drew.trans hg)
            have hB5 := hB5.gr ((Gr.refl _).drew.trans hg)
            have f2 := hd 2 (by decide) _ rfl
            have e2 : σ 2 = _ := f2.1 trivial
            skip
            exact CallOK.sub (r := [(44, _), (0, _), (1, _), (5, _), (6, _), (7, _), (8, _)]) ⟨congrArg some e2, rfl, rfl, rfl, rfl, rfl, rfl, trivial⟩ (by
              exact CallOK.V (enters_of rfl rfl hb18) (rwords hN.sat hA))
            ), (fun _ _ _ _ _ _ h => h), (fun _ _ _ _ _ _ h => h), ?_⟩
        refine ⟨_, false, (fun σ ι w1 hg hd hon => by
            have f1 := hd 1 (by decide) _ rfl
            have f3 := hd 3 (by decide) _ rfl
            have e1 : σ 1 = _ := f1.1 trivial
            have e3 : σ 3 = _ := f3.1 trivial
            exact OpOK.sub (r := [(43, _), (45, _), (0, _), (1, _), (5, _), (6, _), (7, _), (8, _)]) ⟨congrArg some e1, congrArg some e3, rfl, rfl, rfl, rfl, rfl, rfl, trivial⟩ (by
              exact OpOK.eq (r_neq rfl rfl))
            ), (fun _ _ _ _ _ _ h => h), (FreeR.no _), ?_⟩
        refine ⟨_, false, (fun σ ι w1 hg hd hon => by
            have f4 := hd 4 (by decide) _ rfl
            have e4 : σ 4 = _ := f4.1 trivial
            exact OpOK.sub (r := [(46, _), (0, _), (1, _), (5, _), (6, _), (7, _), (8, _)]) ⟨congrArg some e4, rfl, rfl, rfl, rfl, rfl, rfl, trivial⟩ (by
              exact OpOK.eq (r_move rfl))
            ), (fun _ _ _ _ _ _ h => h), (FreeR.no _), ?_⟩
        refine ⟨_, false, (fun σ ι w1 hg hd hon => by
            have f5 := hd 5 (by decide) _ rfl
            have e5 : σ 5 = _ := f5.1 trivial
            have hgd : σ 5 = .bool false := hon
            have hgb := (f5.1 trivial : σ 5 = _).symm.trans hgd
            simp only [Value.bool.injEq] at hgb
            try simp only [decide_eq_true_eq, decide_eq_false_iff_not, Bool.or_eq_true, Bool.and_eq_true, Bool.or_eq_false_iff, Bool.and_eq_false_iff, Bool.not_eq_true', Bool.not_eq_false', Int.not_lt, Int.not_le, ne_eq, Decidable.not_not] at hgb
            exact OpOK.sub (r := [(0, _), (1, _), (5, _), (6, _), (7, _), (8, _)]) ⟨rfl, rfl, rfl, rfl, rfl, rfl, trivial⟩ (by
              exact OpOK.eq (r_move rfl))
            ), (fun _ _ _ _ _ _ h => h), (FreeR.no _), ?_⟩
        refine ⟨_, true, (fun σ ι w1 hg hd hon => by
            have hN := hN.ofGr ((Gr.refl _).drew.trans hg)
            have hB5 := hB5.gr ((Gr.refl _).drew.trans hg)
            have f6 := hd 6 (by decide) _ rfl
            have f5 := hd 5 (by decide) _ rfl
            have e6 : σ 6 = _ := f6.1 hon
            have e5 : σ 5 = _ := f5.1 trivial
            have hgd : σ 5 = .bool false := hon
            have hgb := (f5.1 trivial : σ 5 = _).symm.trans hgd
            simp only [Value.bool.injEq] at hgb
            try simp only [decide_eq_true_eq, decide_eq_false_iff_not, Bool.or_eq_true, Bool.and_eq_true, Bool.or_eq_false_iff, Bool.and_eq_false_iff, Bool.not_eq_true', Bool.not_eq_false', Int.not_lt, Int.not_le, ne_eq, Decidable.not_not] at hgb
            skip
            exact CallOK.sub (r := [(48, _), (0, _), (1, _), (5, _), (6, _), (7, _), (8, _)]) ⟨congrArg some e6, rfl, rfl, rfl, rfl, rfl, rfl, trivial⟩ (by
              exact CallOK.V (enters_of rfl rfl hb19) (bytes_ret hN.sat hE0 hbc))
            ), (fun _ _ _ _ _ _ h => h), (fun _ _ _ _ _ _ h => h), ?_⟩
        refine ⟨_, false, (fun σ ι w1 hg hd hon => by
            have f5 := hd 5 (by decide) _ rfl
            have e5 : σ 5 = _ := f5.1 trivial
            have hgd : σ 5 = .bool false := hon
            have hgb := (f5.1 trivial : σ 5 = _).symm.trans hgd
            simp only [Value.bool.injEq] at hgb
            try simp only [decide_eq_true_eq, decide_eq_false_iff_not, Bool.or_eq_true, Bool.and_eq_true, Bool.or_eq_false_iff, Bool.and_eq_false_iff, Bool.not_eq_true', Bool.not_eq_false', Int.not_lt, Int.not_le, ne_eq, Decidable.not_not] at hgb
            exact OpOK.sub (r := [(0, _), (1, _), (5, _), (6, _), (7, _), (8, _)]) ⟨rfl, rfl, rfl, rfl, rfl, rfl, trivial⟩ (by
              exact OpOK.eq (r_move rfl))
            ), (fun _ _ _ _ _ _ h => h), (FreeR.no _), ?_⟩
        refine ⟨_, true, (fun σ ι w1 hg hd hon => by
            have hN := hN.ofGr ((Gr.refl _).drew.trans hg)
            have hB5 := hB5.gr ((Gr.refl _).drew.trans hg)
            have f8 := hd 8 (by decide) _ rfl
            have f5 := hd 5 (by decide) _ rfl
            have e8 : σ 8 = _ := f8.1 hon
            have e5 : σ 5 = _ := f5.1 trivial
            have hgd : σ 5 = .bool false := hon
            have hgb := (f5.1 trivial : σ 5 = _).symm.trans hgd
            simp only [Value.bool.injEq] at hgb
            try simp only [decide_eq_true_eq, decide_eq_false_iff_not, Bool.or_eq_true, Bool.and_eq_true, Bool.or_eq_false_iff, Bool.and_eq_false_iff, Bool.not_eq_true', Bool.not_eq_false', Int.not_lt, Int.not_le, ne_eq, Decidable.not_not] at hgb
            skip
            exact CallOK.sub (r := [(50, _), (0, _), (1, _), (5, _), (6, _), (7, _), (8, _)]) ⟨congrArg some e8, rfl, rfl, rfl, rfl, rfl, rfl, trivial⟩ (by
              exact CallOK.V (enters_of rfl rfl hb20) (rbytes hN.sat hE0 (by omega)))
            ), (fun _ _ _ _ _ _ h => h), (fun _ _ _ _ _ _ h => h), ?_⟩
        refine ⟨_, false, (fun σ ι w1 hg hd hon => by
            have f7 := hd 7 (by decide) _ rfl
            have f9 := hd 9 (by decide) _ rfl
            have f5 := hd 5 (by decide) _ rfl
            have e7 : σ 7 = _ := f7.1 hon
            have e9 : σ 9 = _ := f9.1 hon
            have e5 : σ 5 = _ := f5.1 trivial
            have hgd : σ 5 = .bool false := hon
            have hgb := (f5.1 trivial : σ 5 = _).symm.trans hgd
            simp only [Value.bool.injEq] at hgb
            try simp only [decide_eq_true_eq, decide_eq_false_iff_not, Bool.or_eq_true, Bool.and_eq_true, Bool.or_eq_false_iff, Bool.and_eq_false_iff, Bool.not_eq_true', Bool.not_eq_false', Int.not_lt, Int.not_le, ne_eq, Decidable.not_not] at hgb
            exact OpOK.sub (r := [(49, _), (51, _), (0, _), (1, _), (5, _), (6, _), (7, _), (8, _)]) ⟨congrArg some e7, congrArg some e9, rfl, rfl, rfl, rfl, rfl, rfl, trivial⟩ (by
              exact OpOK.eq (r_neq rfl rfl))
            ), (fun _ _ _ _ _ _ h => h), (FreeR.no _), ?_⟩
        refine ⟨_, false, (fun σ ι w1 hg hd hon => by
            have f5 := hd 5 (by decide) _ rfl
            have f10 := hd 10 (by decide) _ rfl
            have e5 : σ 5 = _ := f5.1 trivial
            have ec : σ 5 = _ := f5.1 trivial
            exact OpOK.id (by refine OpOK.or (dc := 47) (dy := 52) (kc := σ 5) (ky := σ 10) ?_ ?_ ec (fun hb => f10.1 (by show σ 5 = _; rw [ec]; exact congrArg Value.bool hb)) <;> rfl)
            ), (fun _ _ _ _ _ _ h => h), (FreeR.no _), ?_⟩
        refine ⟨_, false, (fun σ ι w1 hg hd hon => by
            have f11 := hd 11 (by decide) _ rfl
            have e11 : σ 11 = _ := f11.1 trivial
            exact OpOK.sub (r := [(53, _), (0, _), (1, _), (5, _), (6, _), (7, _), (8, _)]) ⟨congrArg some e11, rfl, rfl, rfl, rfl, rfl, rfl, trivial⟩ (by
              exact OpOK.eq (r_move rfl))
            ), (fun _ _ _ _ _ _ h => h), (FreeR.no _), ?_⟩
        refine ⟨_, false, (fun σ ι w1 hg hd hon => by
            have f12 := hd 12 (by decide) _ rfl
            have e12 : σ 12 = _ := f12.1 trivial
            have hgd : σ 12 = .bool false := hon
            have hgb := (f12.1 trivial : σ 12 = _).symm.trans hgd
            simp only [Value.bool.injEq] at hgb
            try simp only [decide_eq_true_eq, decide_eq_false_iff_not, Bool.or_eq_true, Bool.and_eq_true, Bool.or_eq_false_iff, Bool.and_eq_false_iff, Bool.not_eq_true', Bool.not_eq_false', Int.not_lt, Int.not_le, ne_eq, Decidable.not_not] at hgb
            exact OpOK.sub (r := [(0, _), (1, _), (5, _), (6, _), (7, _), (8, _)]) ⟨rfl, rfl, rfl, rfl, rfl, rfl, trivial⟩ (by
              exact OpOK.eq (r_fld fld50_0 rfl))
            ), (fun _ _ _ _ _ _ h => h), (FreeR.no _), ?_⟩
        refine ⟨_, false, (fun σ ι w1 hg hd hon => by
            have hN := hN.ofGr ((Gr.refl _).drew.trans hg)
            have hB5 := hB5.gr ((Gr.refl _).drew.trans hg)
            have f13 := hd 13 (by decide) _ rfl
            have f12 := hd 12 (by decide) _ rfl
            have e13 : σ 13 = _ := f13.1 hon
            have e12 : σ 12 = _ := f12.1 trivial
            have hgd : σ 12 = .bool false := hon
            have hgb := (f12.1 trivial : σ 12 = _).symm.trans hgd
            simp only [Value.bool.injEq] at hgb
            try simp only [decide_eq_true_eq, decide_eq_false_iff_not, Bool.or_eq_true, Bool.and_eq_true, Bool.or_eq_false_iff, Bool.and_eq_false_iff, Bool.not_eq_true', Bool.not_eq_false', Int.not_lt, Int.not_le, ne_eq, Decidable.not_not] at hgb
            exact OpOK.sub (r := [(55, _), (0, _), (1, _), (5, _), (6, _), (7, _), (8, _)]) ⟨congrArg some e13, rfl, rfl, rfl, rfl, rfl, rfl, trivial⟩ (by
              exact OpOK.eq (r_load sc33 rfl (hB5.cell rfl)))
            ), (fun _ _ _ _ _ _ h => h), (FreeR.no _), ?_⟩
        refine ⟨_, false, (fun σ ι w1 hg hd hon => by
            have f12 := hd 12 (by decide) _ rfl
            have e12 : σ 12 = _ := f12.1 trivial
            have hgd : σ 12 = .bool false := hon
            have hgb := (f12.1 trivial : σ 12 = _).symm.trans hgd
            simp only [Value.bool.injEq] at hgb
            try simp only [decide_eq_true_eq, decide_eq_false_iff_not, Bool.or_eq_true, Bool.and_eq_true, Bool.or_eq_false_iff, Bool.and_eq_false_iff, Bool.not_eq_true', Bool.not_eq_false', Int.not_lt, Int.not_le, ne_eq, Decidable.not_not] at hgb
            exact OpOK.sub (r := [(0, _), (1, _), (5, _), (6, _), (7, _), (8, _)]) ⟨rfl, rfl, rfl, rfl, rfl, rfl, trivial⟩ (by
              exact OpOK.eq (r_fld fld50_1 rfl))
            ), (fun _ _ _ _ _ _ h => h), (FreeR.no _), ?_⟩
        refine ⟨_, false, (fun σ ι w1 hg hd hon => by
            have hN := hN.ofGr ((Gr.refl _).drew.trans hg)
            have hB5 := hB5.gr ((Gr.refl _).drew.trans hg)
            have f15 := hd 15 (by decide) _ rfl
            have f12 := hd 12 (by decide) _ rfl
            have e15 : σ 15 = _ := f15.1 hon
            have e12 : σ 12 = _ := f12.1 trivial
            have hgd : σ 12 = .bool false := hon
            have hgb := (f12.1 trivial : σ 12 = _).symm.trans hgd
            simp only [Value.bool.injEq] at hgb
            try simp only [decide_eq_true_eq, decide_eq_false_iff_not, Bool.or_eq_true, Bool.and_eq_true, Bool.or_eq_false_iff, Bool.and_eq_false_iff, Bool.not_eq_true', Bool.not_eq_false', Int.not_lt, Int.not_le, ne_eq, Decidable.not_not] at hgb
            exact OpOK.sub (r := [(57, _), (0, _), (1, _), (5, _), (6, _), (7, _), (8, _)]) ⟨congrArg some e15, rfl, rfl, rfl, rfl, rfl, rfl, trivial⟩ (by
              exact OpOK.eq (r_load sc33 rfl (hB5.cell rfl)))
            ), (fun _ _ _ _ _ _ h => h), (FreeR.no _), ?_⟩
        refine ⟨_, true, (fun σ ι w1 hg hd hon => by
            have hN := hN.ofGr ((Gr.refl _).drew.trans hg)
            have hB5 := hB5.gr ((Gr.refl _).drew.trans hg)
            have f14 := hd 14 (by decide) _ rfl
            have f16 := hd 16 (by decide) _ rfl
            have f12 := hd 12 (by decide) _ rfl
            have e14 : σ 14 = _ := f14.1 hon
            have e16 : σ 16 = _ := f16.1 hon
            have e12 : σ 12 = _ := f12.1 trivial
            have hgd : σ 12 = .bool false := hon
            have hgb := (f12.1 trivial : σ 12 = _).symm.trans hgd
            simp only [Value.bool.injEq] at hgb
            try simp only [decide_eq_true_eq, decide_eq_false_iff_not, Bool.or_eq_true, Bool.and_eq_true, Bool.or_eq_false_iff, Bool.and_eq_false_iff, Bool.not_eq_true', Bool.not_eq_false', Int.not_lt, Int.not_le, ne_eq, Decidable.not_not] at hgb
            skip
            exact CallOK.sub (r := [(56, _), (58, _), (0, _), (1, _), (5, _), (6, _), (7, _), (8, _)]) ⟨congrArg some e14, congrArg some e16, rfl, rfl, rfl, rfl, rfl, rfl, trivial⟩ (by
              exact CallOK.V (enters_of rfl rfl hb21) (br_join hN.sat))
            ), (fun _ _ _ _ _ _ h => h), (fun _ _ _ _ _ _ h => h), ?_⟩
        refine ⟨_, false, (fun σ ι w1 hg hd hon => by
            have f12 := hd 12 (by decide) _ rfl
            have e12 : σ 12 = _ := f12.1 trivial
            have hgd : σ 12 = .bool false := hon
            have hgb := (f12.1 trivial : σ 12 = _).symm.trans hgd
            simp only [Value.bool.injEq] at hgb
            try simp only [decide_eq_true_eq, decide_eq_false_iff_not, Bool.or_eq_true, Bool.and_eq_true, Bool.or_eq_false_iff, Bool.and_eq_false_iff, Bool.not_eq_true', Bool.not_eq_false', Int.not_lt, Int.not_le, ne_eq, Decidable.not_not] at hgb
            exact OpOK.sub (r := [(0, _), (1, _), (5, _), (6, _), (7, _), (8, _)]) ⟨rfl, rfl, rfl, rfl, rfl, rfl, trivial⟩ (by
              exact OpOK.eq (r_fld fld50_0 rfl))
            ), (fun _ _ _ _ _ _ h => h), (FreeR.no _), ?_⟩
        refine ⟨_, false, (fun σ ι w1 hg hd hon => by
            have hN := hN.ofGr ((Gr.refl _).drew.trans hg)
            have hB5 := hB5.gr ((Gr.refl _).drew.trans hg)
            have f18 := hd 18 (by decide) _ rfl
            have f12 := hd 12 (by decide) _ rfl
            have e18 : σ 18 = _ := f18.1 hon
            have e12 : σ 12 = _ := f12.1 trivial
            have hgd : σ 12 = .bool false := hon
            have hgb := (f12.1 trivial : σ 12 = _).symm.trans hgd
            simp only [Value.bool.injEq] at hgb
            try simp only [decide_eq_true_eq, decide_eq_false_iff_not, Bool.or_eq_true, Bool.and_eq_true, Bool.or_eq_false_iff, Bool.and_eq_false_iff, Bool.not_eq_true', Bool.not_eq_false', Int.not_lt, Int.not_le, ne_eq, Decidable.not_not] at hgb
            exact OpOK.sub (r := [(60, _), (0, _), (1, _), (5, _), (6, _), (7, _), (8, _)]) ⟨congrArg some e18, rfl, rfl, rfl, rfl, rfl, rfl, trivial⟩ (by
              exact OpOK.eq (r_load sc33 rfl (hB5.cell rfl)))
            ), (fun _ _ _ _ _ _ h => h), (FreeR.no _), ?_⟩
        refine ⟨_, false, (fun σ ι w1 hg hd hon => by
            have f12 := hd 12 (by decide) _ rfl
            have e12 : σ 12 = _ := f12.1 trivial
            have hgd : σ 12 = .bool false := hon
            have hgb := (f12.1 trivial : σ 12 = _).symm.trans hgd
            simp only [Value.bool.injEq] at hgb
            try simp only [decide_eq_true_eq, decide_eq_false_iff_not, Bool.or_eq_true, Bool.and_eq_true, Bool.or_eq_false_iff, Bool.and_eq_false_iff, Bool.not_eq_true', Bool.not_eq_false', Int.not_lt, Int.not_le, ne_eq, Decidable.not_not] at hgb
            exact OpOK.sub (r := [(0, _), (1, _), (5, _), (6, _), (7, _), (8, _)]) ⟨rfl, rfl, rfl, rfl, rfl, rfl, trivial⟩ (by
              exact OpOK.eq (r_fld fld50_1 rfl))
            ), (fun _ _ _ _ _ _ h => h), (FreeR.no _), ?_⟩
        refine ⟨_, false, (fun σ ι w1 hg hd hon => by
            have hN := hN.ofGr ((Gr.refl _).drew.trans hg)
            have hB5 := hB5.gr ((Gr.refl _).drew.trans hg)
            have f20 := hd 20 (by decide) _ rfl
            have f12 := hd 12 (by decide) _ rfl
            have e20 : σ 20 = _ := f20.1 hon
            have e12 : σ 12 = _ := f12.1 trivial
            have hgd : σ 12 = .bool false := hon
            have hgb := (f12.1 trivial : σ 12 = _).symm.trans hgd
            simp only [Value.bool.injEq] at hgb
            try simp only [decide_eq_true_eq, decide_eq_false_iff_not, Bool.or_eq_true, Bool.and_eq_true, Bool.or_eq_false_iff, Bool.and_eq_false_iff, Bool.not_eq_true', Bool.not_eq_false', Int.not_lt, Int.not_le, ne_eq, Decidable.not_not] at hgb
            exact OpOK.sub (r := [(62, _), (0, _), (1, _), (5, _), (6, _), (7, _), (8, _)]) ⟨congrArg some e20, rfl, rfl, rfl, rfl, rfl, rfl, trivial⟩ (by
              exact OpOK.eq (r_load sc33 rfl (hB5.cell rfl)))
            ), (fun _ _ _ _ _ _ h => h), (FreeR.no _), ?_⟩
        refine ⟨_, true, (fun σ ι w1 hg hd hon => by
            have hN := hN.ofGr ((Gr.refl _).drew.trans hg)
            have hB5 := hB5.gr ((Gr.refl _).drew.trans hg)
            have f19 := hd 19 (by decide) _ rfl
            have f21 := hd 21 (by decide) _ rfl
            have f12 := hd 12 (by decide) _ rfl
            have e19 : σ 19 = _ := f19.1 hon
            have e21 : σ 21 = _ := f21.1 hon
            have e12 : σ 12 = _ := f12.1 trivial
            have hgd : σ 12 = .bool false := hon
            have hgb := (f12.1 trivial : σ 12 = _).symm.trans hgd
            simp only [Value.bool.injEq] at hgb
            try simp only [decide_eq_true_eq, decide_eq_false_iff_not, Bool.or_eq_true, Bool.and_eq_true, Bool.or_eq_false_iff, Bool.and_eq_false_iff, Bool.not_eq_true', Bool.not_eq_false', Int.not_lt, Int.not_le, ne_eq, Decidable.not_not] at hgb
            skip
            exact CallOK.sub (r := [(61, _), (63, _), (0, _), (1, _), (5, _), (6, _), (7, _), (8, _)]) ⟨congrArg some e19, congrArg some e21, rfl, rfl, rfl, rfl, rfl, rfl, trivial⟩ (by
              exact CallOK.V (enters_of rfl rfl hb22) (br_rjoin hN.sat))
            ), (fun _ _ _ _ _ _ h => h), (fun _ _ _ _ _ _ h => h), ?_⟩
        refine ⟨_, false, (fun σ ι w1 hg hd hon => by
            have f17 := hd 17 (by decide) _ rfl
            have f22 := hd 22 (by decide) _ rfl
            have f12 := hd 12 (by decide) _ rfl
            have e17 : σ 17 = _ := f17.1 hon
            have e22 : σ 22 = _ := f22.1 hon
            have e12 : σ 12 = _ := f12.1 trivial
            have hgd : σ 12 = .bool false := hon
            have hgb := (f12.1 trivial : σ 12 = _).symm.trans hgd
            simp only [Value.bool.injEq] at hgb
            try simp only [decide_eq_true_eq, decide_eq_false_iff_not, Bool.or_eq_true, Bool.and_eq_true, Bool.or_eq_false_iff, Bool.and_eq_false_iff, Bool.not_eq_true', Bool.not_eq_false', Int.not_lt, Int.not_le, ne_eq, Decidable.not_not] at hgb
            exact OpOK.sub (r := [(59, _), (64, _), (0, _), (1, _), (5, _), (6, _), (7, _), (8, _)]) ⟨congrArg some e17, congrArg some e22, rfl, rfl, rfl, rfl, rfl, rfl, trivial⟩ (by
              exact OpOK.eq (r_neq rfl rfl))
            ), (fun _ _ _ _ _ _ h => h), (FreeR.no _), ?_⟩
        refine ⟨_, false, (fun σ ι w1 hg hd hon => by
            have f12 := hd 12 (by decide) _ rfl
            have f23 := hd 23 (by decide) _ rfl
            have e12 : σ 12 = _ := f12.1 trivial
            have ec : σ 12 = _ := f12.1 trivial
            exact OpOK.id (by refine OpOK.or (dc := 54) (dy := 65) (kc := σ 12) (ky := σ 23) ?_ ?_ ec (fun hb => f23.1 (by show σ 12 = _; rw [ec]; exact congrArg Value.bool hb)) <;> rfl)
            ), (fun _ _ _ _ _ _ h => h), (FreeR.no _), ?_⟩
        refine ⟨_, false, (fun σ ι w1 hg hd hon => by
            have f24 := hd 24 (by decide) _ rfl
            have e24 : σ 24 = _ := f24.1 trivial
            exact OpOK.sub (r := [(66, _), (0, _), (1, _), (5, _), (6, _), (7, _), (8, _)]) ⟨congrArg some e24, rfl, rfl, rfl, rfl, rfl, rfl, trivial⟩ (by
              exact OpOK.eq (r_move rfl))
            ), (fun _ _ _ _ _ _ h => h), (FreeR.no _), ?_⟩
        refine ⟨_, false, (fun σ ι w1 hg hd hon => by
            have f25 := hd 25 (by decide) _ rfl
            have e25 : σ 25 = _ := f25.1 trivial
            have hgd : σ 25 = .bool false := hon
            have hgb := (f25.1 trivial : σ 25 = _).symm.trans hgd
            simp only [Value.bool.injEq] at hgb
            try simp only [decide_eq_true_eq, decide_eq_false_iff_not, Bool.or_eq_true, Bool.and_eq_true, Bool.or_eq_false_iff, Bool.and_eq_false_iff, Bool.not_eq_true', Bool.not_eq_false', Int.not_lt, Int.not_le, ne_eq, Decidable.not_not] at hgb
            exact OpOK.sub (r := [(0, _), (1, _), (5, _), (6, _), (7, _), (8, _)]) ⟨rfl, rfl, rfl, rfl, rfl, rfl, trivial⟩ (by
              exact OpOK.eq (r_fld fld50_0 rfl))
            ), (fun _ _ _ _ _ _ h => h), (FreeR.no _), ?_⟩
        refine ⟨_, false, (fun σ ι w1 hg hd hon => by
            have hN := hN.ofGr ((Gr.refl _).drew.trans hg)
            have hB5 := hB5.gr ((Gr.refl _).drew.trans hg)
            have f26 := hd 26 (by decide) _ rfl
            have f25 := hd 25 (by decide) _ rfl
            have e26 : σ 26 = _ := f26.1 hon
            have e25 : σ 25 = _ := f25.1 trivial
            have hgd : σ 25 = .bool false := hon
            have hgb := (f25.1 trivial : σ 25 = _).symm.trans hgd
            simp only [Value.bool.injEq] at hgb
            try simp only [decide_eq_true_eq, decide_eq_false_iff_not, Bool.or_eq_true, Bool.and_eq_true, Bool.or_eq_false_iff, Bool.and_eq_false_iff, Bool.not_eq_true', Bool.not_eq_false', Int.not_lt, Int.not_le, ne_eq, Decidable.not_not] at hgb
            exact OpOK.sub (r := [(68, _), (0, _), (1, _), (5, _), (6, _), (7, _), (8, _)]) ⟨congrArg some e26, rfl, rfl, rfl, rfl, rfl, rfl, trivial⟩ (by
              exact OpOK.eq (r_load sc33 rfl (hB5.cell rfl)))
            ), (fun _ _ _ _ _ _ h => h), (FreeR.no _), ?_⟩
        refine ⟨_, false, (fun σ ι w1 hg hd hon => by
            have f25 := hd 25 (by decide) _ rfl
            have e25 : σ 25 = _ := f25.1 trivial
            have hgd : σ 25 = .bool false := hon
            have hgb := (f25.1 trivial : σ 25 = _).symm.trans hgd
            simp only [Value.bool.injEq] at hgb
            try simp only [decide_eq_true_eq, decide_eq_false_iff_not, Bool.or_eq_true, Bool.and_eq_true, Bool.or_eq_false_iff, Bool.and_eq_false_iff, Bool.not_eq_true', Bool.not_eq_false', Int.not_lt, Int.not_le, ne_eq, Decidable.not_not] at hgb
            exact OpOK.sub (r := [(0, _), (1, _), (5, _), (6, _), (7, _), (8, _)]) ⟨rfl, rfl, rfl, rfl, rfl, rfl, trivial⟩ (by
              exact OpOK.eq (r_move rfl))
            ), (fun _ _ _ _ _ _ h => h), (FreeR.no _), ?_⟩
        refine ⟨_, true, (fun σ ι w1 hg hd hon => by
            have hN := hN.ofGr ((Gr.refl _).drew.trans hg)
            have hB5 := hB5.gr ((Gr.refl _).drew.trans hg)
            have f27 := hd 27 (by decide) _ rfl
            have f28 := hd 28 (by decide) _ rfl
            have f25 := hd 25 (by decide) _ rfl
            have e27 : σ 27 = _ := f27.1 hon
            have e28 : σ 28 = _ := f28.1 hon
            have e25 : σ 25 = _ := f25.1 trivial
            have hgd : σ 25 = .bool false := hon
            have hgb := (f25.1 trivial : σ 25 = _).symm.trans hgd
            simp only [Value.bool.injEq] at hgb
            try simp only [decide_eq_true_eq, decide_eq_false_iff_not, Bool.or_eq_true, Bool.and_eq_true, Bool.or_eq_false_iff, Bool.and_eq_false_iff, Bool.not_eq_true', Bool.not_eq_false', Int.not_lt, Int.not_le, ne_eq, Decidable.not_not] at hgb
            skip
            exact CallOK.sub (r := [(69, _), (70, _), (0, _), (1, _), (5, _), (6, _), (7, _), (8, _)]) ⟨congrArg some e27, congrArg some e28, rfl, rfl, rfl, rfl, rfl, rfl, trivial⟩ (by
              exact CallOK.V (enters_of rfl rfl hb23) (tag_ret' hN.sat hA rfl))
            ), (fun _ _ _ _ _ _ h => h), (fun _ _ _ _ _ _ h => h), ?_⟩
        refine ⟨_, false, (fun σ ι w1 hg hd hon => by
            have f25 := hd 25 (by decide) _ rfl
            have e25 : σ 25 = _ := f25.1 trivial
            have hgd : σ 25 = .bool false := hon
            have hgb := (f25.1 trivial : σ 25 = _).symm.trans hgd
            simp only [Value.bool.injEq] at hgb
            try simp only [decide_eq_true_eq, decide_eq_false_iff_not, Bool.or_eq_true, Bool.and_eq_true, Bool.or_eq_false_iff, Bool.and_eq_false_iff, Bool.not_eq_true', Bool.not_eq_false', Int.not_lt, Int.not_le, ne_eq, Decidable.not_not] at hgb
            exact OpOK.sub (r := [(0, _), (1, _), (5, _), (6, _), (7, _), (8, _)]) ⟨rfl, rfl, rfl, rfl, rfl, rfl, trivial⟩ (by
              exact OpOK.eq (r_fld fld50_0 rfl))
            ), (fun _ _ _ _ _ _ h => h), (FreeR.no _), ?_⟩
        refine ⟨_, false, (fun σ ι w1 hg hd hon => by
            have hN := hN.ofGr ((Gr.refl _).drew.trans hg)
            have hB5 := hB5.gr ((Gr.refl _).drew.trans hg)
            have f30 := hd 30 (by decide) _ rfl
            have f25 := hd 25 (by decide) _ rfl
            have e30 : σ 30 = _ := f30.1 hon
            have e25 : σ 25 = _ := f25.1 trivial
            have hgd : σ 25 = .bool false := hon
            have hgb := (f25.1 trivial : σ 25 = _).symm.trans hgd
            simp only [Value.bool.injEq] at hgb
            try simp only [decide_eq_true_eq, decide_eq_false_iff_not, Bool.or_eq_true, Bool.and_eq_true, Bool.or_eq_false_iff, Bool.and_eq_false_iff, Bool.not_eq_true', Bool.not_eq_false', Int.not_lt, Int.not_le, ne_eq, Decidable.not_not] at hgb
            exact OpOK.sub (r := [(72, _), (0, _), (1, _), (5, _), (6, _), (7, _), (8, _)]) ⟨congrArg some e30, rfl, rfl, rfl, rfl, rfl, rfl, trivial⟩ (by
              exact OpOK.eq (r_load sc33 rfl (hB5.cell rfl)))
            ), (fun _ _ _ _ _ _ h => h), (FreeR.no _), ?_⟩
        refine ⟨_, false, (fun σ ι w1 hg hd hon => by
            have f25 := hd 25 (by decide) _ rfl
            have e25 : σ 25 = _ := f25.1 trivial
            have hgd : σ 25 = .bool false := hon
            have hgb := (f25.1 trivial : σ 25 = _).symm.trans hgd
            simp only [Value.bool.injEq] at hgb
            try simp only [decide_eq_true_eq, decide_eq_false_iff_not, Bool.or_eq_true, Bool.and_eq_true, Bool.or_eq_false_iff, Bool.and_eq_false_iff, Bool.not_eq_true', Bool.not_eq_false', Int.not_lt, Int.not_le, ne_eq, Decidable.not_not] at hgb
            exact OpOK.sub (r := [(0, _), (1, _), (5, _), (6, _), (7, _), (8, _)]) ⟨rfl, rfl, rfl, rfl, rfl, rfl, trivial⟩ (by
              exact OpOK.eq (r_move rfl))
            ), (fun _ _ _ _ _ _ h => h), (FreeR.no _), ?_⟩
        refine ⟨_, true, (fun σ ι w1 hg hd hon => by
            have hN := hN.ofGr ((Gr.refl _).drew.trans hg)
            have hB5 := hB5.gr ((Gr.refl _).drew.trans hg)
            have f31 := hd 31 (by decide) _ rfl
            have f32 := hd 32 (by decide) _ rfl
            have f25 := hd 25 (by decide) _ rfl
            have e31 : σ 31 = _ := f31.1 hon
            have e32 : σ 32 = _ := f32.1 hon
            have e25 : σ 25 = _ := f25.1 trivial
            have hgd : σ 25 = .bool false := hon
            have hgb := (f25.1 trivial : σ 25 = _).symm.trans hgd
            simp only [Value.bool.injEq] at hgb
            try simp only [decide_eq_true_eq, decide_eq_false_iff_not, Bool.or_eq_true, Bool.and_eq_true, Bool.or_eq_false_iff, Bool.and_eq_false_iff, Bool.not_eq_true', Bool.not_eq_false', Int.not_lt, Int.not_le, ne_eq, Decidable.not_not] at hgb
            skip
            exact CallOK.sub (r := [(73, _), (74, _), (0, _), (1, _), (5, _), (6, _), (7, _), (8, _)]) ⟨congrArg some e31, congrArg some e32, rfl, rfl, rfl, rfl, rfl, rfl, trivial⟩ (by
              exact CallOK.V (enters_of rfl rfl hb24) (rtag hN.sat hA rfl))
            ), (fun _ _ _ _ _ _ h => h), (fun _ _ _ _ _ _ h => h), ?_⟩
        refine ⟨_, false, (fun σ ι w1 hg hd hon => by
            have f29 := hd 29 (by decide) _ rfl
            have f33 := hd 33 (by decide) _ rfl
            have f25 := hd 25 (by decide) _ rfl
            have e29 : σ 29 = _ := f29.1 hon
            have e33 : σ 33 = _ := f33.1 hon
            have e25 : σ 25 = _ := f25.1 trivial
            have hgd : σ 25 = .bool false := hon
            have hgb := (f25.1 trivial : σ 25 = _).symm.trans hgd
            simp only [Value.bool.injEq] at hgb
            try simp only [decide_eq_true_eq, decide_eq_false_iff_not, Bool.or_eq_true, Bool.and_eq_true, Bool.or_eq_false_iff, Bool.and_eq_false_iff, Bool.not_eq_true', Bool.not_eq_false', Int.not_lt, Int.not_le, ne_eq, Decidable.not_not] at hgb
            exact OpOK.sub (r := [(71, _), (75, _), (0, _), (1, _), (5, _), (6, _), (7, _), (8, _)]) ⟨congrArg some e29, congrArg some e33, rfl, rfl, rfl, rfl, rfl, rfl, trivial⟩ (by
              exact OpOK.eq (r_neq rfl rfl))
            ), (fun _ _ _ _ _ _ h => h), (FreeR.no _), ?_⟩
        refine ⟨_, false, (fun σ ι w1 hg hd hon => by
            have f25 := hd 25 (by decide) _ rfl
            have f34 := hd 34 (by decide) _ rfl
            have e25 : σ 25 = _ := f25.1 trivial
            have ec : σ 25 = _ := f25.1 trivial
            exact OpOK.id (by refine OpOK.or (dc := 67) (dy := 76) (kc := σ 25) (ky := σ 34) ?_ ?_ ec (fun hb => f34.1 (by show σ 25 = _; rw [ec]; exact congrArg Value.bool hb)) <;> rfl)
            ), (fun _ _ _ _ _ _ h => h), (FreeR.no _), ?_⟩
        refine ⟨_, false, (fun σ ι w1 hg hd hon => by
            have f35 := hd 35 (by decide) _ rfl
            have e35 : σ 35 = _ := f35.1 trivial
            exact OpOK.sub (r := [(77, _), (0, _), (1, _), (5, _), (6, _), (7, _), (8, _)]) ⟨congrArg some e35, rfl, rfl, rfl, rfl, rfl, rfl, trivial⟩ (by
              exact OpOK.eq (r_move rfl))
            ), (fun _ _ _ _ _ _ h => h), (FreeR.no _), ?_⟩
        refine ⟨_, false, (fun σ ι w1 hg hd hon => by
            have f36 := hd 36 (by decide) _ rfl
            have e36 : σ 36 = _ := f36.1 trivial
            have hgd : σ 36 = .bool false := hon
            have hgb := (f36.1 trivial : σ 36 = _).symm.trans hgd
            simp only [Value.bool.injEq] at hgb
            try simp only [decide_eq_true_eq, decide_eq_false_iff_not, Bool.or_eq_true, Bool.and_eq_true, Bool.or_eq_false_iff, Bool.and_eq_false_iff, Bool.not_eq_true', Bool.not_eq_false', Int.not_lt, Int.not_le, ne_eq, Decidable.not_not] at hgb
            exact OpOK.sub (r := [(0, _), (1, _), (5, _), (6, _), (7, _), (8, _)]) ⟨rfl, rfl, rfl, rfl, rfl, rfl, trivial⟩ (by
              exact OpOK.eq (r_move rfl))
            ), (fun _ _ _ _ _ _ h => h), (FreeR.no _), ?_⟩
        refine ⟨_, true, (fun σ ι w1 hg hd hon => by
            have hN := hN.ofGr ((Gr.refl _).drew.trans hg)
            have hB5 := hB5.gr ((Gr.refl _).drew.trans hg)
            have f37 := hd 37 (by decide) _ rfl
            have f36 := hd 36 (by decide) _ rfl
            have e37 : σ 37 = _ := f37.1 hon
            have e36 : σ 36 = _ := f36.1 trivial
            have hgd : σ 36 = .bool false := hon
            have hgb := (f36.1 trivial : σ 36 = _).symm.trans hgd
            simp only [Value.bool.injEq] at hgb
            try simp only [decide_eq_true_eq, decide_eq_false_iff_not, Bool.or_eq_true, Bool.and_eq_true, Bool.or_eq_false_iff, Bool.and_eq_false_iff, Bool.not_eq_true', Bool.not_eq_false', Int.not_lt, Int.not_le, ne_eq, Decidable.not_not] at hgb
            skip
            exact CallOK.sub (r := [(79, _), (0, _), (1, _), (5, _), (6, _), (7, _), (8, _)]) ⟨congrArg some e37, rfl, rfl, rfl, rfl, rfl, rfl, trivial⟩ (by
              exact CallOK.V (enters_of rfl rfl hb13) (br_root hN.sat hE1 (by omega) hc1))
            ), (fun _ _ _ _ _ _ h => h), (fun _ _ _ _ _ _ h => h), ?_⟩
        refine ⟨_, false, (fun σ ι w1 hg hd hon => by
            have f36 := hd 36 (by decide) _ rfl
            have e36 : σ 36 = _ := f36.1 trivial
            have hgd : σ 36 = .bool false := hon
            have hgb := (f36.1 trivial : σ 36 = _).symm.trans hgd
            simp only [Value.bool.injEq] at hgb
            try simp only [decide_eq_true_eq, decide_eq_false_iff_not, Bool.or_eq_true, Bool.and_eq_true, Bool.or_eq_false_iff, Bool.and_eq_false_iff, Bool.not_eq_true', Bool.not_eq_false', Int.not_lt, Int.not_le, ne_eq, Decidable.not_not] at hgb
            exact OpOK.sub (r := [(0, _), (1, _), (5, _), (6, _), (7, _), (8, _)]) ⟨rfl, rfl, rfl, rfl, rfl, rfl, trivial⟩ (by
              exact OpOK.eq (r_move rfl))
            ), (fun _ _ _ _ _ _ h => h), (FreeR.no _), ?_⟩
        refine ⟨_, true, (fun σ ι w1 hg hd hon => by
            have hN := hN.ofGr ((Gr.refl _).drew.trans hg)
            have hB5 := hB5.gr ((Gr.refl _).drew.trans hg)
            have f39 := hd 39 (by decide) _ rfl
            have f36 := hd 36 (by decide) _ rfl
            have e39 : σ 39 = _ := f39.1 hon
            have e36 : σ 36 = _ := f36.1 trivial
            have hgd : σ 36 = .bool false := hon
            have hgb := (f36.1 trivial : σ 36 = _).symm.trans hgd
            simp only [Value.bool.injEq] at hgb
            try simp only [decide_eq_true_eq, decide_eq_false_iff_not, Bool.or_eq_true, Bool.and_eq_true, Bool.or_eq_false_iff, Bool.and_eq_false_iff, Bool.not_eq_true', Bool.not_eq_false', Int.not_lt, Int.not_le, ne_eq, Decidable.not_not] at hgb
            skip
            exact CallOK.sub (r := [(81, _), (0, _), (1, _), (5, _), (6, _), (7, _), (8, _)]) ⟨congrArg some e39, rfl, rfl, rfl, rfl, rfl, rfl, trivial⟩ (by
              exact CallOK.V (enters_of rfl rfl hb25) (rroot hN.sat hE1 (by omega) hc1))
            ), (fun _ _ _ _ _ _ h => h), (fun _ _ _ _ _ _ h => h), ?_⟩
        refine ⟨_, false, (fun σ ι w1 hg hd hon => by
            have f38 := hd 38 (by decide) _ rfl
            have f40 := hd 40 (by decide) _ rfl
            have f36 := hd 36 (by decide) _ rfl
            have e38 : σ 38 = _ := f38.1 hon
            have e40 : σ 40 = _ := f40.1 hon
            have e36 : σ 36 = _ := f36.1 trivial
            have hgd : σ 36 = .bool false := hon
            have hgb := (f36.1 trivial : σ 36 = _).symm.trans hgd
            simp only [Value.bool.injEq] at hgb
            try simp only [decide_eq_true_eq, decide_eq_false_iff_not, Bool.or_eq_true, Bool.and_eq_true, Bool.or_eq_false_iff, Bool.and_eq_false_iff, Bool.not_eq_true', Bool.not_eq_false', Int.not_lt, Int.not_le, ne_eq, Decidable.not_not] at hgb
            exact OpOK.sub (r := [(80, _), (82, _), (0, _), (1, _), (5, _), (6, _), (7, _), (8, _)]) ⟨congrArg some e38, congrArg some e40, rfl, rfl, rfl, rfl, rfl, rfl, trivial⟩ (by
              exact OpOK.eq (r_neq rfl rfl))
            ), (fun _ _ _ _ _ _ h => h), (FreeR.no _), ?_⟩
        refine ⟨_, false, (fun σ ι w1 hg hd hon => by
            have f36 := hd 36 (by decide) _ rfl
            have f41 := hd 41 (by decide) _ rfl
            have e36 : σ 36 = _ := f36.1 trivial
            have ec : σ 36 = _ := f36.1 trivial
            exact OpOK.id (by refine OpOK.or (dc := 78) (dy := 83) (kc := σ 36) (ky := σ 41) ?_ ?_ ec (fun hb => f41.1 (by show σ 36 = _; rw [ec]; exact congrArg Value.bool hb)) <;> rfl)
            ), (fun _ _ _ _ _ _ h => h), (FreeR.no _), ?_⟩
        intro σ ι a31 w5 hgw5 H56 hd hap
        skip
        have hN0 := hN
        have hN := hN.ofGr ((Gr.refl _).drew.trans hgw5)
        replace hB5 := hB5.gr ((Gr.refl _).drew.trans hgw5)
        have e42 : σ 42 = _ := (hd 42 (by decide) _ rfl).1 trivial
        replace H56 := H56.sub (r := [(84, _), (0, _), (1, _), (5, _), (6, _), (7, _), (8, _)]) ⟨congrArg some e42, rfl, rfl, rfl, rfl, rfl, rfl, trivial⟩
        clear hd
        replace H56 := H56.known (t := 84) (b := false) rfl (by simp)
        clear hap
        refine wl_end ?_
        refine th_n ?_
        refine w_ff H56 rfl rfl ?_
        refine wpIn_skip ?_
        refine th_n ?_
        refine wpIn_seq ?_
        refine wpIn_seq ?_
        refine w_reg ?_
        refine wl1 H56 (r_assign rfl) rfl rfl rfl rfl fun a32 H57 => ?_
        clear H56 a31
        refine wl_end ?_
        refine th_n ?_
        refine wpIn_block ?_
        refine w_loop (ι := (Nat) × Im) (fun xJ => (fun k => [(9, .int .i64 ((k : Int) - 1))]) xJ.1) (fun xJ W => Im.le J3 xJ.2 ∧ New I w xJ.2 W ∧ (fun k (J : Im) => k ≤ 25 ∧ Box J W b5 [.int .u64 a, .int .u64 b, .int .i64 n, .slice C p.length cp, .int .i64 i, .int .u64 dd, .int .u16 q] 50) xJ.1 xJ.2) (fun xJ => (fun k => 26 - k) xJ.1) (l0 := [(5, _), (7, _), (8, _)]) (0, J3) H57 ⟨rfl, rfl, rfl, rfl, trivial⟩ ⟨Im.le.refl _, hN, Nat.zero_le _, hB5⟩ ?_
        rintro ⟨k, J6⟩ a33 w6 H58 ⟨hleJ1, hN, hk, hB5⟩
        clear H57 a32
        simp only [List.cons_append, List.nil_append] at H58
        try dsimp only at hleJ1
        try dsimp only at hN
        replace hA := hA.up hleJ1
        replace hE0 := hE0.up hleJ1
        replace hP := hP.up hleJ1
        replace hE1 := hE1.up hleJ1
        simp only at hk hB5 H58
        try dsimp only at hB5
        try dsimp only at hk
        refine wpIn_seq ?_
        refine wpIn_seq ?_
        refine w_reg ?_
        refine wl1 H58 (r_move rfl) rfl rfl rfl rfl fun a34 H59 => ?_
        clear H58 a33
        refine wl1 H59 (r_move rfl) rfl rfl rfl rfl fun a35 H60 => ?_
        clear H59 a34
        refine wl1 H60 (r_len Try.underlying22 rfl) rfl rfl rfl rfl fun a36 H61 => ?_
        clear H60 a35
        refine wl1 H61 (r_leq rfl rfl) rfl rfl rfl rfl fun a37 H62 => ?_
        clear H61 a36
        refine wl1 H62 (r_move rfl) rfl rfl rfl rfl fun a38 H63 => ?_
        clear H62 a37
        refine wl_split (t := 89) H63 rfl (fun hg10_4 H64 => ?_) (fun hg10_4 H64 => ?_)
        ·
          clear H63
          try simp only [decide_eq_true_eq, decide_eq_false_iff_not, Bool.or_eq_true, Bool.and_eq_true, Bool.or_eq_false_iff, Bool.and_eq_false_iff, Bool.not_eq_true', Bool.not_eq_false', Int.not_lt, Int.not_le, ne_eq, Decidable.not_not] at hg10_4
          refine wl_on (d := 89) H64 rfl rfl rfl ?_
          refine wl1 H64 (r_move rfl) rfl rfl rfl rfl fun a39 H65 => ?_
          clear H64 a38
          refine wl_on (d := 89) H65 rfl rfl rfl ?_
          refine wl1 H65 (r_lss rfl rfl) rfl rfl rfl rfl fun a40 H66 => ?_
          clear H65 a39
          refine wl1 H66 (r_pick_t rfl rfl) rfl rfl rfl rfl fun a41 H67 => ?_
          clear H66 a40
          refine wl_end ?_
          refine th_n ?_
          first | refine w_if H67 rfl (fun hc92 => ?_) (fun hc92 => ?_) | refine w_cond H67 rfl (fun hc92 => ?_) (fun hc92 => ?_)
          ·
            try simp only [decide_eq_true_eq, decide_eq_false_iff_not, Bool.or_eq_true, Bool.and_eq_true, Bool.or_eq_false_iff, Bool.and_eq_false_iff, Bool.not_eq_true', Bool.not_eq_false', Int.not_lt, Int.not_le, ne_eq, Decidable.not_not] at hc92
            refine wpIn_skip ?_
            refine th_n ?_
            refine wpIn_seq ?_
            refine wpIn_block ?_
            refine wpIn_seq ?_
            refine w_reg ?_
            refine wl1 H67 (r_move rfl) rfl rfl rfl rfl fun a42 H68 => ?_
            clear H67 a41
            refine wl1 H68 (r_move rfl) rfl rfl rfl rfl fun a43 H69 => ?_
            clear H68 a42
            refine wlc  H69 rfl rfl hb11 rfl (br_pathOf hN.sat hE1 (by omega) hc1) fun v w7 hR a44 H70 => ?_
            clear H69 a43
            obtain ⟨J7, nw7, ⟨A2, c2, rfl, hc2, hE2⟩⟩ := hR
            replace hA := hA.up nw7.le
            replace hE0 := hE0.up nw7.le
            replace hP := hP.up nw7.le
            replace hE1 := hE1.up nw7.le
            replace hB5 := hB5.next nw7
            replace hleJ1 := hleJ1.trans nw7.le
            have hN := hN.trans nw7
            refine wl1 H70 (r_move rfl) rfl rfl rfl rfl fun a45 H71 => ?_
            clear H70 a44
            refine wl1 H71 (r_move rfl) rfl rfl rfl rfl fun a46 H72 => ?_
            clear H71 a45
            refine wlc  H72 rfl rfl hb26 rfl (rpath hN.sat hE1 (by omega) hc1) fun v w8 hR a47 H73 => ?_
            clear H72 a46
            obtain ⟨J8, nw8, ⟨A3, c3, rfl, hc3, hE3⟩⟩ := hR
            replace hA := hA.up nw8.le
            replace hE0 := hE0.up nw8.le
            replace hP := hP.up nw8.le
            replace hE1 := hE1.up nw8.le
            replace hE2 := hE2.up nw8.le
            replace hB5 := hB5.next nw8
            replace hleJ1 := hleJ1.trans nw8.le
            have hN := hN.trans nw8
            refine s_alloc H73 zv29 rfl hN fun w9 b10 hN gw9 hB10 hgeb10 heb10 a48 H74 => ?_
            clear H73 a47
            replace hB10 : Box _ _ _ [.slice none 0 0, .int .i64 0] 29 := hB10
            have hne_hB5_b10 := hB5.lt
            rw [← heb10] at hne_hB5_b10
            replace hB5 := hB5.gr gw9
            refine s_alloc H74 zv29 rfl hN fun w10 b11 hN gw10 hB11 hgeb11 heb11 a49 H75 => ?_
            clear H74 a48
            replace hB11 : Box _ _ _ [.slice none 0 0, .int .i64 0] 29 := hB11
            have hne_hB5_b11 := hB5.lt
            rw [← heb11] at hne_hB5_b11
            have hne_hB10_b11 := hB10.lt
            rw [← heb11] at hne_hB10_b11
            replace hB5 := hB5.gr gw10
            replace hB10 := hB10.gr gw10
            refine s_storeA (vs := [_, _]) H75 sz29 (by simp) (by simp [Value.oneCell']) rfl rfl hN hB10 (by simp) hgeb10 fun w11 hN hB10 ew11 H76 => ?_
            clear H75
            replace hB5 := hB5.otherE ew11 (by omega)
            replace hB11 := hB11.otherE ew11 (by omega)
            simp only [Nat.zero_add, Nat.add_zero, Nat.reduceAdd, Nat.reduceMul, List.set_cons_zero, List.set_cons_succ, spliceL] at hB10
            clear ew11
            refine s_storeA (vs := [_, _]) H76 sz29 (by simp) (by simp [Value.oneCell']) rfl rfl hN hB11 (by simp) hgeb11 fun w12 hN hB11 ew12 H77 => ?_
            clear H76
            replace hB5 := hB5.otherE ew12 (by omega)
            replace hB10 := hB10.otherE ew12 (by omega)
            simp only [Nat.zero_add, Nat.add_zero, Nat.reduceAdd, Nat.reduceMul, List.set_cons_zero, List.set_cons_succ, spliceL] at hB11
            clear ew12
            refine wl_end ?_
            refine th_n ?_
            refine wpIn_seq ?_
            refine w_reg ?_
            refine wl1 H77 (r_fld fld29_1 rfl) rfl rfl rfl rfl fun a50 H78 => ?_
            clear H77 a49
            refine wl1 H78 (r_load sc27 rfl (hB10.cell rfl)) rfl rfl rfl rfl fun a51 H79 => ?_
            clear H78 a50
            refine wl1 H79 (r_fld fld29_1 rfl) rfl rfl rfl rfl fun a52 H80 => ?_
            clear H79 a51
            refine wl1 H80 (r_load sc27 rfl (hB11.cell rfl)) rfl rfl rfl rfl fun a53 H81 => ?_
            clear H80 a52
            refine wl1 H81 (r_neq rfl rfl) rfl rfl rfl rfl fun a54 H82 => ?_
            clear H81 a53
            replace H82 := H82.known (t := 105) (b := false) rfl (by simp)
            refine wl1 H82 (r_move rfl) rfl rfl rfl rfl fun a55 H83 => ?_
            clear H82 a54
            refine wl_on (d := 106) H83 rfl rfl rfl ?_
            refine wl1 H83 (r_fld fld29_0 rfl) rfl rfl rfl rfl fun a56 H84 => ?_
            clear H83 a55
            refine wl_on (d := 106) H84 rfl rfl rfl ?_
            refine wl1 H84 (r_load sc22 rfl (hB10.cell rfl)) rfl rfl rfl rfl fun a57 H85 => ?_
            clear H84 a56
            refine wl_on (d := 106) H85 rfl rfl rfl ?_
            refine wl1 H85 (r_fld fld29_0 rfl) rfl rfl rfl rfl fun a58 H86 => ?_
            clear H85 a57
            refine wl_on (d := 106) H86 rfl rfl rfl ?_
            refine wl1 H86 (r_load sc22 rfl (hB11.cell rfl)) rfl rfl rfl rfl fun a59 H87 => ?_
            clear H86 a58
            refine wl_on (d := 106) H87 rfl rfl rfl ?_
            refine wlc  H87 rfl rfl hb14 rfl (br_same hN.sat hE2 hE3 rfl rfl) fun v w13 hR a60 H88 => ?_
            clear H87 a59
            obtain ⟨rfl, gw13⟩ := hR
            have hN := hN.ofGr gw13
            replace hB5 := hB5.gr gw13
            replace hB10 := hB10.gr gw13
            replace hB11 := hB11.gr gw13
            refine wl_on (d := 106) H88 rfl rfl rfl ?_
            refine wl1 H88 (r_not rfl) rfl rfl rfl rfl fun a61 H89 => ?_
            clear H88 a60
            replace H89 := H89.known (t := 112) (b := false) rfl (by simp)
            refine wl1 H89 (r_pick_f rfl rfl) rfl rfl rfl rfl fun a62 H90 => ?_
            clear H89 a61
            refine wl_end ?_
            refine th_n ?_
            refine w_ff H90 rfl rfl ?_
            refine wpIn_skip ?_
            refine bl_n ?_
            refine th_n ?_
            refine w_reg ?_
            refine wl1 H90 (r_move rfl) rfl rfl rfl rfl fun a63 H91 => ?_
            clear H90 a62
            first | refine wl1 H91 (r_addk rfl rfl (by simp only [InK]; omega)) rfl rfl rfl rfl fun a64 H92 => ?_ | refine wl1 H91 (r_add rfl rfl) rfl rfl rfl rfl fun a64 H92 => ?_
            clear H91 a63
            rw [show ((k : Int) - 1 + 1) = ((k + 1 : Nat) : Int) - 1 by omega] at H92
            refine wl1 H92 (r_assign rfl) rfl rfl rfl rfl fun a65 H93 => ?_
            clear H92 a64
            refine wl_end ?_
            exact th_n ⟨(k + 1, J8), (by show 26 - (k + 1) < 26 - k; omega), H93.sub ⟨rfl, rfl, rfl, rfl, trivial⟩, hleJ1, hN, by show k + 1 ≤ 25; omega, hB5⟩
          ·
            try simp only [decide_eq_true_eq, decide_eq_false_iff_not, Bool.or_eq_true, Bool.and_eq_true, Bool.or_eq_false_iff, Bool.and_eq_false_iff, Bool.not_eq_true', Bool.not_eq_false', Int.not_lt, Int.not_le, ne_eq, Decidable.not_not] at hc92
            refine wpIn_exit ?_
            refine th_x ?_
            refine th_x ?_
            refine bl_hit ?_
            refine th_n ?_
            refine wpIn_seq ?_
            refine w_reg ?_
            refine wl1 H67 (r_move rfl) rfl rfl rfl rfl fun a42 H94 => ?_
            clear H67 a41
            refine wl1 H94 (r_len Try.underlying22 rfl) rfl rfl rfl rfl fun a43 H95 => ?_
            clear H94 a42
            refine wl1 H95 (r_fld fld50_2 rfl) rfl rfl rfl rfl fun a44 H96 => ?_
            clear H95 a43
            refine wl1 H96 (r_fld fld36_1 rfl) rfl rfl rfl rfl fun a45 H97 => ?_
            clear H96 a44
            refine wl1 H97 (r_load sc22 rfl (hB5.cell rfl)) rfl rfl rfl rfl fun a46 H98 => ?_
            clear H97 a45
            refine wl1 H98 (r_build (v := .agg #[.int .i64 (d.length : Int), .slice C p.length cp]) rfl (fun w => by kernel_rfl)) rfl rfl rfl rfl fun a47 H99 => ?_
            clear H98 a46
            refine s_alloc H99 zv36 rfl hN fun w14 b12 hN gw14 hB12 hgeb12 heb12 a48 H100 => ?_
            clear H99 a47
            replace hB12 : Box _ _ _ [.int .i64 0, .slice none 0 0] 36 := hB12
            have hne_hB5_b12 := hB5.lt
            rw [← heb12] at hne_hB5_b12
            replace hB5 := hB5.gr gw14
            refine s_storeA (vs := [_, _]) H100 sz36 (by simp) (by simp [Value.oneCell']) rfl rfl hN hB12 (by simp) hgeb12 fun w15 hN hB12 ew15 H101 => ?_
            clear H100
            replace hB5 := hB5.otherE ew15 (by omega)
            simp only [Nat.zero_add, Nat.add_zero, Nat.reduceAdd, Nat.reduceMul, List.set_cons_zero, List.set_cons_succ, spliceL] at hB12
            clear ew15
            refine wl_end ?_
            refine th_n ?_
            refine wpIn_seq ?_
            have hS0 := hN.sat
            have hNsz16 := hN.gr.size
            have hlt_hB5_16 := hB5.lt
            have hlt_hB12_16 := hB12.lt
            refine w_drawE (m := 12) (l0 := [(5, _), (7, _), (8, _), (12, _)]) hfol H101 ⟨rfl, rfl, rfl, rfl, trivial⟩ (by kernel_rfl) ?_
            refine ⟨_, false, (fun σ ι w1 hg hd hon => by
                exact OpOK.sub (r := [(5, _), (7, _), (8, _), (12, _)]) ⟨rfl, rfl, rfl, rfl, trivial⟩ (by
                  exact OpOK.eq (r_move rfl))
                ), (fun _ _ _ _ _ _ h => h), (FreeR.no _), ?_⟩
            refine ⟨_, false, (fun σ ι w1 hg hd hon => by
                exact OpOK.sub (r := [(5, _), (7, _), (8, _), (12, _)]) ⟨rfl, rfl, rfl, rfl, trivial⟩ (by
                  exact OpOK.eq (r_fld fld50_3 rfl))
                ), (fun _ _ _ _ _ _ h => h), (FreeR.no _), ?_⟩
            refine ⟨_, false, (fun σ ι w1 hg hd hon => by
                have f1 := hd 1 (by decide) _ rfl
                have e1 : σ 1 = _ := f1.1 trivial
                exact OpOK.sub (r := [(121, _), (5, _), (7, _), (8, _), (12, _)]) ⟨congrArg some e1, rfl, rfl, rfl, rfl, trivial⟩ (by
                  exact OpOK.eq (r_fld fld38_0 rfl))
                ), (fun _ _ _ _ _ _ h => h), (FreeR.no _), ?_⟩
            refine ⟨_, false, (fun σ ι w1 hg hd hon => by
                have hN := hN.ofGr ((Gr.refl _).drew.trans hg)
                have hB5 := hB5.gr ((Gr.refl _).drew.trans hg)
                have hB12 := hB12.gr ((Gr.refl _).drew.trans hg)
                have f2 := hd 2 (by decide) _ rfl
                have e2 : σ 2 = _ := f2.1 trivial
                exact OpOK.sub (r := [(122, _), (5, _), (7, _), (8, _), (12, _)]) ⟨congrArg some e2, rfl, rfl, rfl, rfl, trivial⟩ (by
                  exact OpOK.eq (r_load sc3 rfl (hB5.cell rfl)))
                ), (fun _ _ _ _ _ _ h => h), (FreeR.no _), ?_⟩
            refine ⟨_, true, (fun σ ι w1 hg hd hon => by
                have hN := hN.ofGr ((Gr.refl _).drew.trans hg)
                have hB5 := hB5.gr ((Gr.refl _).drew.trans hg)
                have hB12 := hB12.gr ((Gr.refl _).drew.trans hg)
                have f0 := hd 0 (by decide) _ rfl
                have f3 := hd 3 (by decide) _ rfl
                have e0 : σ 0 = _ := f0.1 trivial
                have e3 : σ 3 = _ := f3.1 trivial
                skip
                exact CallOK.sub (r := [(120, _), (123, _), (5, _), (7, _), (8, _), (12, _)]) ⟨congrArg some e0, congrArg some e3, rfl, rfl, rfl, rfl, trivial⟩ (by
                  exact CallOK.M (Φ := PP d i) (enters_of rfl rfl hb11) (br_pathOfΦ (l := d) hN.sat hE1 (by omega) hc1))
                ), (by exact monoOwn (J := J6) (Φ := fun _ => PP d i)), (fun _ _ _ _ _ _ h => h), ?_⟩
            refine ⟨_, false, (fun σ ι w1 hg hd hon => by
                exact OpOK.sub (r := [(5, _), (7, _), (8, _), (12, _)]) ⟨rfl, rfl, rfl, rfl, trivial⟩ (by
                  exact OpOK.eq (r_move rfl))
                ), (fun _ _ _ _ _ _ h => h), (FreeR.no _), ?_⟩
            refine ⟨_, false, (fun σ ι w1 hg hd hon => by
                exact OpOK.sub (r := [(5, _), (7, _), (8, _), (12, _)]) ⟨rfl, rfl, rfl, rfl, trivial⟩ (by
                  exact OpOK.eq (r_fld fld50_3 rfl))
                ), (fun _ _ _ _ _ _ h => h), (FreeR.no _), ?_⟩
            refine ⟨_, false, (fun σ ι w1 hg hd hon => by
                have f6 := hd 6 (by decide) _ rfl
                have e6 : σ 6 = _ := f6.1 trivial
                exact OpOK.sub (r := [(126, _), (5, _), (7, _), (8, _), (12, _)]) ⟨congrArg some e6, rfl, rfl, rfl, rfl, trivial⟩ (by
                  exact OpOK.eq (r_fld fld38_0 rfl))
                ), (fun _ _ _ _ _ _ h => h), (FreeR.no _), ?_⟩
            refine ⟨_, false, (fun σ ι w1 hg hd hon => by
                have hN := hN.ofGr ((Gr.refl _).drew.trans hg)
                have hB5 := hB5.gr ((Gr.refl _).drew.trans hg)
                have hB12 := hB12.gr ((Gr.refl _).drew.trans hg)
                have f7 := hd 7 (by decide) _ rfl
                have e7 : σ 7 = _ := f7.1 trivial
                exact OpOK.sub (r := [(127, _), (5, _), (7, _), (8, _), (12, _)]) ⟨congrArg some e7, rfl, rfl, rfl, rfl, trivial⟩ (by
                  exact OpOK.eq (r_load sc3 rfl (hB5.cell rfl)))
                ), (fun _ _ _ _ _ _ h => h), (FreeR.no _), ?_⟩
            refine ⟨_, true, (fun σ ι w1 hg hd hon => by
                have hN := hN.ofGr ((Gr.refl _).drew.trans hg)
                have hB5 := hB5.gr ((Gr.refl _).drew.trans hg)
                have hB12 := hB12.gr ((Gr.refl _).drew.trans hg)
                have f5 := hd 5 (by decide) _ rfl
                have f8 := hd 8 (by decide) _ rfl
                have e5 : σ 5 = _ := f5.1 trivial
                have e8 : σ 8 = _ := f8.1 trivial
                skip
                exact CallOK.sub (r := [(125, _), (128, _), (5, _), (7, _), (8, _), (12, _)]) ⟨congrArg some e5, congrArg some e8, rfl, rfl, rfl, rfl, trivial⟩ (by
                  exact CallOK.M (Φ := PP d i) (enters_of rfl rfl hb26) (rpathΦ (l := d) hN.sat hE1 (by omega) hc1))
                ), (by exact monoOwn (J := J6) (Φ := fun _ => PP d i)), (fun _ _ _ _ _ _ h => h), ?_⟩
            refine ⟨_, false, (fun σ ι w1 hg hd hon => by
                exact OpOK.sub (r := [(5, _), (7, _), (8, _), (12, _)]) ⟨rfl, rfl, rfl, rfl, trivial⟩ (by exact OpOK.alloc (cs := [.slice none 0 0, .int .i64 0]) zv29 rfl)
                ), (by intro σ v q w w' hg h; obtain ⟨h1, h2, h3⟩ := h; exact ⟨h1, h2, h3.gr hg⟩), (FreeR.no _), ?_⟩
            refine ⟨_, false, (fun σ ι w1 hg hd hon => by
                exact OpOK.sub (r := [(5, _), (7, _), (8, _), (12, _)]) ⟨rfl, rfl, rfl, rfl, trivial⟩ (by exact OpOK.alloc (cs := [.slice none 0 0, .int .i64 0]) zv29 rfl)
                ), (by intro σ v q w w' hg h; obtain ⟨h1, h2, h3⟩ := h; exact ⟨h1, h2, h3.gr hg⟩), (FreeR.no _), ?_⟩
            intro σ ι a49 w17 hgw17 H102 hd hap
            skip
            have hN0 := hN
            have hN := hN.ofGr ((Gr.refl _).drew.trans hgw17)
            have hNd := (New.refl (hS0.drewS)).ofGr hgw17
            obtain ⟨K4, hP4, A4, c4, e4, hc4, hE4⟩ := (hd 4 (by decide) _ rfl).1 trivial
            replace hE4 := hE4.up (joinI_right hNd.sat hP4.sat)
            replace hNd := hNd.part hNd.le hP4 (hap.1 4 (by decide)).1
            obtain ⟨K9, hP9, A5, c5, e9, hc5, hE5⟩ := (hd 9 (by decide) _ rfl).1 trivial
            replace hE5 := hE5.up (joinI_right hNd.sat hP9.sat)
            replace hE4 := hE4.up (joinI_left (joinI J6 K4) K9)
            replace hNd := hNd.part hNd.le hP9 (hap.1 9 (by decide)).1
            replace hB5 := (hB5.gr (Gr.refl _).drew).next hNd
            replace hB12 := (hB12.gr (Gr.refl _).drew).next hNd
            replace hA := hA.up hNd.le
            replace hE0 := hE0.up hNd.le
            replace hP := hP.up hNd.le
            replace hE1 := hE1.up hNd.le
            replace hleJ1 := hleJ1.trans hNd.le
            have hN := hN0.drew.trans hNd
            obtain ⟨e10, hlqb13, hblb13⟩ := (hd 10 (by decide) _ rfl).1 trivial
            have hg0b13 := (hap.1 10 (by decide)).1
            have hJ0b13 := hS0.fresh hg0b13
            have hB13 : Box (joinI (joinI J6 K4) K9) w17 _ [.slice none 0 0, .int .i64 0] 29 := ⟨hblb13, (joinI_none (joinI_none hJ0b13 (hP4.none hJ0b13 (by have := hap.2 4 10 (by decide) (by decide) (by decide); omega))) (hP9.none hJ0b13 (by have := hap.2 9 10 (by decide) (by decide) (by decide); omega)))⟩
            obtain ⟨e11, hlqb14, hblb14⟩ := (hd 11 (by decide) _ rfl).1 trivial
            have hg0b14 := (hap.1 11 (by decide)).1
            have hJ0b14 := hS0.fresh hg0b14
            have hB14 : Box (joinI (joinI J6 K4) K9) w17 _ [.slice none 0 0, .int .i64 0] 29 := ⟨hblb14, (joinI_none (joinI_none hJ0b14 (hP4.none hJ0b14 (by have := hap.2 4 11 (by decide) (by decide) (by decide); omega))) (hP9.none hJ0b14 (by have := hap.2 9 11 (by decide) (by decide) (by decide); omega)))⟩
            replace H102 := H102.sub (r := [(124, _), (129, _), (13, _), (14, _), (5, _), (7, _), (8, _), (12, _)]) ⟨congrArg some e4, congrArg some e9, congrArg some e10, congrArg some e11, rfl, rfl, rfl, rfl, trivial⟩
            clear hd
            have hne_hB13_b14 : (ι 10).1 ≠ (ι 11).1 := by have := hap.2 10 11 (by decide) (by decide) (by decide); omega
            have hgeb13 := Nat.le_trans hNsz16 hg0b13
            clear hlqb13 hblb13 hJ0b13
            have hne_hB5_b13 := Nat.lt_of_lt_of_le hlt_hB5_16 hg0b13
            have hne_hB12_b13 := Nat.lt_of_lt_of_le hlt_hB12_16 hg0b13
            have hgeb14 := Nat.le_trans hNsz16 hg0b14
            clear hlqb14 hblb14 hJ0b14
            have hne_hB5_b14 := Nat.lt_of_lt_of_le hlt_hB5_16 hg0b14
            have hne_hB12_b14 := Nat.lt_of_lt_of_le hlt_hB12_16 hg0b14
            generalize (ι 10).1 = b13 at *
            generalize (ι 11).1 = b14 at *
            clear hap
            refine s_storeA (vs := [_, _]) H102 sz29 (by simp) (by simp [Value.oneCell']) rfl rfl hN hB13 (by simp) hgeb13 fun w18 hN hB13 ew18 H103 => ?_
            clear H102
            replace hB5 := hB5.otherE ew18 (by omega)
            replace hB12 := hB12.otherE ew18 (by omega)
            replace hB14 := hB14.otherE ew18 (by omega)
            simp only [Nat.zero_add, Nat.add_zero, Nat.reduceAdd, Nat.reduceMul, List.set_cons_zero, List.set_cons_succ, spliceL] at hB13
            clear ew18
            refine s_storeA (vs := [_, _]) H103 sz29 (by simp) (by simp [Value.oneCell']) rfl rfl hN hB14 (by simp) hgeb14 fun w19 hN hB14 ew19 H104 => ?_
            clear H103
            replace hB5 := hB5.otherE ew19 (by omega)
            replace hB12 := hB12.otherE ew19 (by omega)
            replace hB13 := hB13.otherE ew19 (by omega)
            simp only [Nat.zero_add, Nat.add_zero, Nat.reduceAdd, Nat.reduceMul, List.set_cons_zero, List.set_cons_succ, spliceL] at hB14
            clear ew19
            refine wl_end ?_
            refine th_n ?_
            refine wpIn_seq ?_
            have hS0 := hN.sat
            have hNsz17 := hN.gr.size
            refine w_drawE (m := 44) (l0 := [(5, _), (7, _), (12, _), (13, _), (14, _)]) hfol H104 ⟨rfl, rfl, rfl, rfl, rfl, trivial⟩ (by kernel_rfl) ?_
            refine ⟨_, false, (fun σ ι w1 hg hd hon => by
                exact OpOK.sub (r := [(5, _), (7, _), (12, _), (13, _), (14, _)]) ⟨rfl, rfl, rfl, rfl, rfl, trivial⟩ (by
                  exact OpOK.eq (r_fld fld29_1 rfl))
                ), (fun _ _ _ _ _ _ h => h), (FreeR.no _), ?_⟩
            refine ⟨_, false, (fun σ ι w1 hg hd hon => by
                have hN := hN.ofGr ((Gr.refl _).drew.trans hg)
                have hB5 := hB5.gr ((Gr.refl _).drew.trans hg)
                have hB12 := hB12.gr ((Gr.refl _).drew.trans hg)
                have hB13 := hB13.gr ((Gr.refl _).drew.trans hg)
                have hB14 := hB14.gr ((Gr.refl _).drew.trans hg)
                have f0 := hd 0 (by decide) _ rfl
                have e0 : σ 0 = _ := f0.1 trivial
                exact OpOK.sub (r := [(130, _), (5, _), (7, _), (12, _), (13, _), (14, _)]) ⟨congrArg some e0, rfl, rfl, rfl, rfl, rfl, trivial⟩ (by
                  exact OpOK.eq (r_load sc27 rfl (hB13.cell rfl)))
                ), (fun _ _ _ _ _ _ h => h), (FreeR.no _), ?_⟩
            refine ⟨_, false, (fun σ ι w1 hg hd hon => by
                exact OpOK.sub (r := [(5, _), (7, _), (12, _), (13, _), (14, _)]) ⟨rfl, rfl, rfl, rfl, rfl, trivial⟩ (by
                  exact OpOK.eq (r_fld fld29_1 rfl))
                ), (fun _ _ _ _ _ _ h => h), (FreeR.no _), ?_⟩
            refine ⟨_, false, (fun σ ι w1 hg hd hon => by
                have hN := hN.ofGr ((Gr.refl _).drew.trans hg)
                have hB5 := hB5.gr ((Gr.refl _).drew.trans hg)
                have hB12 := hB12.gr ((Gr.refl _).drew.trans hg)
                have hB13 := hB13.gr ((Gr.refl _).drew.trans hg)
                have hB14 := hB14.gr ((Gr.refl _).drew.trans hg)
                have f2 := hd 2 (by decide) _ rfl
                have e2 : σ 2 = _ := f2.1 trivial
                exact OpOK.sub (r := [(132, _), (5, _), (7, _), (12, _), (13, _), (14, _)]) ⟨congrArg some e2, rfl, rfl, rfl, rfl, rfl, trivial⟩ (by
                  exact OpOK.eq (r_load sc27 rfl (hB14.cell rfl)))
                ), (fun _ _ _ _ _ _ h => h), (FreeR.no _), ?_⟩
            refine ⟨_, false, (fun σ ι w1 hg hd hon => by
                have f1 := hd 1 (by decide) _ rfl
                have f3 := hd 3 (by decide) _ rfl
                have e1 : σ 1 = _ := f1.1 trivial
                have e3 : σ 3 = _ := f3.1 trivial
                exact OpOK.sub (r := [(131, _), (133, _), (5, _), (7, _), (12, _), (13, _), (14, _)]) ⟨congrArg some e1, congrArg some e3, rfl, rfl, rfl, rfl, rfl, trivial⟩ (by
                  exact OpOK.eq (r_eql rfl rfl))
                ), (fun _ _ _ _ _ _ h => h), (FreeR.no _), ?_⟩
            refine ⟨_, false, (fun σ ι w1 hg hd hon => by
                have f4 := hd 4 (by decide) _ rfl
                have e4 : σ 4 = _ := f4.1 trivial
                exact OpOK.sub (r := [(134, _), (5, _), (7, _), (12, _), (13, _), (14, _)]) ⟨congrArg some e4, rfl, rfl, rfl, rfl, rfl, trivial⟩ (by
                  exact OpOK.eq (r_move rfl))
                ), (fun _ _ _ _ _ _ h => h), (FreeR.no _), ?_⟩
            refine ⟨_, false, (fun σ ι w1 hg hd hon => by
                have f5 := hd 5 (by decide) _ rfl
                have e5 : σ 5 = _ := f5.1 trivial
                have hgd : σ 5 = .bool true := hon
                have hgb := (f5.1 trivial : σ 5 = _).symm.trans hgd
                simp only [Value.bool.injEq] at hgb
                try simp only [decide_eq_true_eq, decide_eq_false_iff_not, Bool.or_eq_true, Bool.and_eq_true, Bool.or_eq_false_iff, Bool.and_eq_false_iff, Bool.not_eq_true', Bool.not_eq_false', Int.not_lt, Int.not_le, ne_eq, Decidable.not_not] at hgb
                exact OpOK.sub (r := [(5, _), (7, _), (12, _), (13, _), (14, _)]) ⟨rfl, rfl, rfl, rfl, rfl, trivial⟩ (by
                  exact OpOK.eq (r_fld fld29_0 rfl))
                ), (fun _ _ _ _ _ _ h => h), (FreeR.no _), ?_⟩
            refine ⟨_, false, (fun σ ι w1 hg hd hon => by
                have hN := hN.ofGr ((Gr.refl _).drew.trans hg)
                have hB5 := hB5.gr ((Gr.refl _).drew.trans hg)
                have hB12 := hB12.gr ((Gr.refl _).drew.trans hg)
                have hB13 := hB13.gr ((Gr.refl _).drew.trans hg)
                have hB14 := hB14.gr ((Gr.refl _).drew.trans hg)
                have f6 := hd 6 (by decide) _ rfl
                have f5 := hd 5 (by decide) _ rfl
                have e6 : σ 6 = _ := f6.1 hon
                have e5 : σ 5 = _ := f5.1 trivial
                have hgd : σ 5 = .bool true := hon
                have hgb := (f5.1 trivial : σ 5 = _).symm.trans hgd
                simp only [Value.bool.injEq] at hgb
                try simp only [decide_eq_true_eq, decide_eq_false_iff_not, Bool.or_eq_true, Bool.and_eq_true, Bool.or_eq_false_iff, Bool.and_eq_false_iff, Bool.not_eq_true', Bool.not_eq_false', Int.not_lt, Int.not_le, ne_eq, Decidable.not_not] at hgb
                exact OpOK.sub (r := [(136, _), (5, _), (7, _), (12, _), (13, _), (14, _)]) ⟨congrArg some e6, rfl, rfl, rfl, rfl, rfl, trivial⟩ (by
                  exact OpOK.eq (r_load sc22 rfl (hB13.cell rfl)))
                ), (fun _ _ _ _ _ _ h => h), (FreeR.no _), ?_⟩
            refine ⟨_, false, (fun σ ι w1 hg hd hon => by
                have f5 := hd 5 (by decide) _ rfl
                have e5 : σ 5 = _ := f5.1 trivial
                have hgd : σ 5 = .bool true := hon
                have hgb := (f5.1 trivial : σ 5 = _).symm.trans hgd
                simp only [Value.bool.injEq] at hgb
                try simp only [decide_eq_true_eq, decide_eq_false_iff_not, Bool.or_eq_true, Bool.and_eq_true, Bool.or_eq_false_iff, Bool.and_eq_false_iff, Bool.not_eq_true', Bool.not_eq_false', Int.not_lt, Int.not_le, ne_eq, Decidable.not_not] at hgb
                exact OpOK.sub (r := [(5, _), (7, _), (12, _), (13, _), (14, _)]) ⟨rfl, rfl, rfl, rfl, rfl, trivial⟩ (by
                  exact OpOK.eq (r_fld fld29_0 rfl))
                ), (fun _ _ _ _ _ _ h => h), (FreeR.no _), ?_⟩
            refine ⟨_, false, (fun σ ι w1 hg hd hon => by
                have hN := hN.ofGr ((Gr.refl _).drew.trans hg)
                have hB5 := hB5.gr ((Gr.refl _).drew.trans hg)
                have hB12 := hB12.gr ((Gr.refl _).drew.trans hg)
                have hB13 := hB13.gr ((Gr.refl _).drew.trans hg)
                have hB14 := hB14.gr ((Gr.refl _).drew.trans hg)
                have f8 := hd 8 (by decide) _ rfl
                have f5 := hd 5 (by decide) _ rfl
                have e8 : σ 8 = _ := f8.1 hon
                have e5 : σ 5 = _ := f5.1 trivial
                have hgd : σ 5 = .bool true := hon
                have hgb := (f5.1 trivial : σ 5 = _).symm.trans hgd
                simp only [Value.bool.injEq] at hgb
                try simp only [decide_eq_true_eq, decide_eq_false_iff_not, Bool.or_eq_true, Bool.and_eq_true, Bool.or_eq_false_iff, Bool.and_eq_false_iff, Bool.not_eq_true', Bool.not_eq_false', Int.not_lt, Int.not_le, ne_eq, Decidable.not_not] at hgb
                exact OpOK.sub (r := [(138, _), (5, _), (7, _), (12, _), (13, _), (14, _)]) ⟨congrArg some e8, rfl, rfl, rfl, rfl, rfl, trivial⟩ (by
                  exact OpOK.eq (r_load sc22 rfl (hB14.cell rfl)))
                ), (fun _ _ _ _ _ _ h => h), (FreeR.no _), ?_⟩
            refine ⟨_, true, (fun σ ι w1 hg hd hon => by
                have hN := hN.ofGr ((Gr.refl _).drew.trans hg)
                have hB5 := hB5.gr ((Gr.refl _).drew.trans hg)
                have hB12 := hB12.gr ((Gr.refl _).drew.trans hg)
                have hB13 := hB13.gr ((Gr.refl _).drew.trans hg)
                have hB14 := hB14.gr ((Gr.refl _).drew.trans hg)
                have f7 := hd 7 (by decide) _ rfl
                have f9 := hd 9 (by decide) _ rfl
                have f5 := hd 5 (by decide) _ rfl
                have e7 : σ 7 = _ := f7.1 hon
                have e9 : σ 9 = _ := f9.1 hon
                have e5 : σ 5 = _ := f5.1 trivial
                have hgd : σ 5 = .bool true := hon
                have hgb := (f5.1 trivial : σ 5 = _).symm.trans hgd
                simp only [Value.bool.injEq] at hgb
                try simp only [decide_eq_true_eq, decide_eq_false_iff_not, Bool.or_eq_true, Bool.and_eq_true, Bool.or_eq_false_iff, Bool.and_eq_false_iff, Bool.not_eq_true', Bool.not_eq_false', Int.not_lt, Int.not_le, ne_eq, Decidable.not_not] at hgb
                skip
                exact CallOK.sub (r := [(137, _), (139, _), (5, _), (7, _), (12, _), (13, _), (14, _)]) ⟨congrArg some e7, congrArg some e9, rfl, rfl, rfl, rfl, rfl, trivial⟩ (by
                  exact CallOK.V (enters_of rfl rfl hb14) (br_same hN.sat hE4 hE5 rfl rfl))
                ), (fun _ _ _ _ _ _ h => h), (fun _ _ _ _ _ _ h => h), ?_⟩
            refine ⟨_, false, (fun σ ι w1 hg hd hon => by
                have f5 := hd 5 (by decide) _ rfl
                have f10 := hd 10 (by decide) _ rfl
                have e5 : σ 5 = _ := f5.1 trivial
                have ec : σ 5 = _ := f5.1 trivial
                exact OpOK.id (by refine OpOK.and (dc := 135) (dy := 140) (kc := σ 5) (ky := σ 10) ?_ ?_ ec (fun hb => f10.1 (by show σ 5 = _; rw [ec]; exact congrArg Value.bool hb)) <;> rfl)
                ), (fun _ _ _ _ _ _ h => h), (FreeR.no _), ?_⟩
            refine ⟨_, false, (fun σ ι w1 hg hd hon => by
                have f11 := hd 11 (by decide) _ rfl
                have e11 : σ 11 = _ := f11.1 trivial
                exact OpOK.sub (r := [(141, _), (5, _), (7, _), (12, _), (13, _), (14, _)]) ⟨congrArg some e11, rfl, rfl, rfl, rfl, rfl, trivial⟩ (by
                  exact OpOK.eq (r_move rfl))
                ), (fun _ _ _ _ _ _ h => h), (FreeR.no _), ?_⟩
            refine ⟨_, false, (fun σ ι w1 hg hd hon => by
                have f12 := hd 12 (by decide) _ rfl
                have e12 : σ 12 = _ := f12.1 trivial
                have hgd : σ 12 = .bool true := hon
                have hgb := (f12.1 trivial : σ 12 = _).symm.trans hgd
                simp only [Value.bool.injEq] at hgb
                try simp only [decide_eq_true_eq, decide_eq_false_iff_not, Bool.or_eq_true, Bool.and_eq_true, Bool.or_eq_false_iff, Bool.and_eq_false_iff, Bool.not_eq_true', Bool.not_eq_false', Int.not_lt, Int.not_le, ne_eq, Decidable.not_not] at hgb
                exact OpOK.sub (r := [(5, _), (7, _), (12, _), (13, _), (14, _)]) ⟨rfl, rfl, rfl, rfl, rfl, trivial⟩ (by
                  exact OpOK.eq (r_fld fld50_0 rfl))
                ), (fun _ _ _ _ _ _ h => h), (FreeR.no _), ?_⟩
            refine ⟨_, false, (fun σ ι w1 hg hd hon => by
                have hN := hN.ofGr ((Gr.refl _).drew.trans hg)
                have hB5 := hB5.gr ((Gr.refl _).drew.trans hg)
                have hB12 := hB12.gr ((Gr.refl _).drew.trans hg)
                have hB13 := hB13.gr ((Gr.refl _).drew.trans hg)
                have hB14 := hB14.gr ((Gr.refl _).drew.trans hg)
                have f13 := hd 13 (by decide) _ rfl
                have f12 := hd 12 (by decide) _ rfl
                have e13 : σ 13 = _ := f13.1 hon
                have e12 : σ 12 = _ := f12.1 trivial
                have hgd : σ 12 = .bool true := hon
                have hgb := (f12.1 trivial : σ 12 = _).symm.trans hgd
                simp only [Value.bool.injEq] at hgb
                try simp only [decide_eq_true_eq, decide_eq_false_iff_not, Bool.or_eq_true, Bool.and_eq_true, Bool.or_eq_false_iff, Bool.and_eq_false_iff, Bool.not_eq_true', Bool.not_eq_false', Int.not_lt, Int.not_le, ne_eq, Decidable.not_not] at hgb
                exact OpOK.sub (r := [(143, _), (5, _), (7, _), (12, _), (13, _), (14, _)]) ⟨congrArg some e13, rfl, rfl, rfl, rfl, rfl, trivial⟩ (by
                  exact OpOK.eq (r_load sc33 rfl (hB5.cell rfl)))
                ), (fun _ _ _ _ _ _ h => h), (FreeR.no _), ?_⟩
            refine ⟨_, false, (fun σ ι w1 hg hd hon => by
                have f12 := hd 12 (by decide) _ rfl
                have e12 : σ 12 = _ := f12.1 trivial
                have hgd : σ 12 = .bool true := hon
                have hgb := (f12.1 trivial : σ 12 = _).symm.trans hgd
                simp only [Value.bool.injEq] at hgb
                try simp only [decide_eq_true_eq, decide_eq_false_iff_not, Bool.or_eq_true, Bool.and_eq_true, Bool.or_eq_false_iff, Bool.and_eq_false_iff, Bool.not_eq_true', Bool.not_eq_false', Int.not_lt, Int.not_le, ne_eq, Decidable.not_not] at hgb
                exact OpOK.sub (r := [(5, _), (7, _), (12, _), (13, _), (14, _)]) ⟨rfl, rfl, rfl, rfl, rfl, trivial⟩ (by
                  exact OpOK.eq (r_fld fld50_2 rfl))
                ), (fun _ _ _ _ _ _ h => h), (FreeR.no _), ?_⟩
            refine ⟨_, false, (fun σ ι w1 hg hd hon => by
                have hN := hN.ofGr ((Gr.refl _).drew.trans hg)
                have hB5 := hB5.gr ((Gr.refl _).drew.trans hg)
                have hB12 := hB12.gr ((Gr.refl _).drew.trans hg)
                have hB13 := hB13.gr ((Gr.refl _).drew.trans hg)
                have hB14 := hB14.gr ((Gr.refl _).drew.trans hg)
                have f15 := hd 15 (by decide) _ rfl
                have f12 := hd 12 (by decide) _ rfl
                have e15 : σ 15 = _ := f15.1 hon
                have e12 : σ 12 = _ := f12.1 trivial
                have hgd : σ 12 = .bool true := hon
                have hgb := (f12.1 trivial : σ 12 = _).symm.trans hgd
                simp only [Value.bool.injEq] at hgb
                try simp only [decide_eq_true_eq, decide_eq_false_iff_not, Bool.or_eq_true, Bool.and_eq_true, Bool.or_eq_false_iff, Bool.and_eq_false_iff, Bool.not_eq_true', Bool.not_eq_false', Int.not_lt, Int.not_le, ne_eq, Decidable.not_not] at hgb
                exact OpOK.sub (r := [(145, _), (5, _), (7, _), (12, _), (13, _), (14, _)]) ⟨congrArg some e15, rfl, rfl, rfl, rfl, rfl, trivial⟩ (by
                  exact OpOK.eq (Box.loadO ag36 rfl hB5 (by simp)))
                ), (fun _ _ _ _ _ _ h => h), (FreeR.no _), ?_⟩
            refine ⟨_, false, (fun σ ι w1 hg hd hon => by
                have f12 := hd 12 (by decide) _ rfl
                have e12 : σ 12 = _ := f12.1 trivial
                have hgd : σ 12 = .bool true := hon
                have hgb := (f12.1 trivial : σ 12 = _).symm.trans hgd
                simp only [Value.bool.injEq] at hgb
                try simp only [decide_eq_true_eq, decide_eq_false_iff_not, Bool.or_eq_true, Bool.and_eq_true, Bool.or_eq_false_iff, Bool.and_eq_false_iff, Bool.not_eq_true', Bool.not_eq_false', Int.not_lt, Int.not_le, ne_eq, Decidable.not_not] at hgb
                exact OpOK.sub (r := [(5, _), (7, _), (12, _), (13, _), (14, _)]) ⟨rfl, rfl, rfl, rfl, rfl, trivial⟩ (by
                  exact OpOK.eq (r_fld fld50_3 rfl))
                ), (fun _ _ _ _ _ _ h => h), (FreeR.no _), ?_⟩
            refine ⟨_, false, (fun σ ι w1 hg hd hon => by
                have hN := hN.ofGr ((Gr.refl _).drew.trans hg)
                have hB5 := hB5.gr ((Gr.refl _).drew.trans hg)
                have hB12 := hB12.gr ((Gr.refl _).drew.trans hg)
                have hB13 := hB13.gr ((Gr.refl _).drew.trans hg)
                have hB14 := hB14.gr ((Gr.refl _).drew.trans hg)
                have f17 := hd 17 (by decide) _ rfl
                have f12 := hd 12 (by decide) _ rfl
                have e17 : σ 17 = _ := f17.1 hon
                have e12 : σ 12 = _ := f12.1 trivial
                have hgd : σ 12 = .bool true := hon
                have hgb := (f12.1 trivial : σ 12 = _).symm.trans hgd
                simp only [Value.bool.injEq] at hgb
                try simp only [decide_eq_true_eq, decide_eq_false_iff_not, Bool.or_eq_true, Bool.and_eq_true, Bool.or_eq_false_iff, Bool.and_eq_false_iff, Bool.not_eq_true', Bool.not_eq_false', Int.not_lt, Int.not_le, ne_eq, Decidable.not_not] at hgb
                exact OpOK.sub (r := [(147, _), (5, _), (7, _), (12, _), (13, _), (14, _)]) ⟨congrArg some e17, rfl, rfl, rfl, rfl, rfl, trivial⟩ (by
                  exact OpOK.eq (Box.loadO ag38 rfl hB5 (by simp)))
                ), (fun _ _ _ _ _ _ h => h), (FreeR.no _), ?_⟩
            refine ⟨_, true, (fun σ ι w1 hg hd hon => by
                have hN := hN.ofGr ((Gr.refl _).drew.trans hg)
                have hB5 := hB5.gr ((Gr.refl _).drew.trans hg)
                have hB12 := hB12.gr ((Gr.refl _).drew.trans hg)
                have hB13 := hB13.gr ((Gr.refl _).drew.trans hg)
                have hB14 := hB14.gr ((Gr.refl _).drew.trans hg)
                have f14 := hd 14 (by decide) _ rfl
                have f16 := hd 16 (by decide) _ rfl
                have f18 := hd 18 (by decide) _ rfl
                have f12 := hd 12 (by decide) _ rfl
                have e14 : σ 14 = _ := f14.1 hon
                have e16 : σ 16 = _ := f16.1 hon
                have e18 : σ 18 = _ := f18.1 hon
                have e12 : σ 12 = _ := f12.1 trivial
                have hgd : σ 12 = .bool true := hon
                have hgb := (f12.1 trivial : σ 12 = _).symm.trans hgd
                simp only [Value.bool.injEq] at hgb
                try simp only [decide_eq_true_eq, decide_eq_false_iff_not, Bool.or_eq_true, Bool.and_eq_true, Bool.or_eq_false_iff, Bool.and_eq_false_iff, Bool.not_eq_true', Bool.not_eq_false', Int.not_lt, Int.not_le, ne_eq, Decidable.not_not] at hgb
                skip
                exact CallOK.sub (r := [(144, _), (146, _), (148, _), (5, _), (7, _), (12, _), (13, _), (14, _)]) ⟨congrArg some e14, congrArg some e16, congrArg some e18, rfl, rfl, rfl, rfl, rfl, trivial⟩ (by
                  exact CallOK.V (enters_of rfl rfl hb12) (br_check hN.sat hP hpc))
                ), (fun _ _ _ _ _ _ h => h), (fun _ _ _ _ _ _ h => h), ?_⟩
            refine ⟨_, false, (fun σ ι w1 hg hd hon => by
                have f12 := hd 12 (by decide) _ rfl
                have e12 : σ 12 = _ := f12.1 trivial
                have hgd : σ 12 = .bool true := hon
                have hgb := (f12.1 trivial : σ 12 = _).symm.trans hgd
                simp only [Value.bool.injEq] at hgb
                try simp only [decide_eq_true_eq, decide_eq_false_iff_not, Bool.or_eq_true, Bool.and_eq_true, Bool.or_eq_false_iff, Bool.and_eq_false_iff, Bool.not_eq_true', Bool.not_eq_false', Int.not_lt, Int.not_le, ne_eq, Decidable.not_not] at hgb
                exact OpOK.sub (r := [(5, _), (7, _), (12, _), (13, _), (14, _)]) ⟨rfl, rfl, rfl, rfl, rfl, trivial⟩ (by
                  exact OpOK.eq (r_fld fld50_0 rfl))
                ), (fun _ _ _ _ _ _ h => h), (FreeR.no _), ?_⟩
            refine ⟨_, false, (fun σ ι w1 hg hd hon => by
                have hN := hN.ofGr ((Gr.refl _).drew.trans hg)
                have hB5 := hB5.gr ((Gr.refl _).drew.trans hg)
                have hB12 := hB12.gr ((Gr.refl _).drew.trans hg)
                have hB13 := hB13.gr ((Gr.refl _).drew.trans hg)
                have hB14 := hB14.gr ((Gr.refl _).drew.trans hg)
                have f20 := hd 20 (by decide) _ rfl
                have f12 := hd 12 (by decide) _ rfl
                have e20 : σ 20 = _ := f20.1 hon
                have e12 : σ 12 = _ := f12.1 trivial
                have hgd : σ 12 = .bool true := hon
                have hgb := (f12.1 trivial : σ 12 = _).symm.trans hgd
                simp only [Value.bool.injEq] at hgb
                try simp only [decide_eq_true_eq, decide_eq_false_iff_not, Bool.or_eq_true, Bool.and_eq_true, Bool.or_eq_false_iff, Bool.and_eq_false_iff, Bool.not_eq_true', Bool.not_eq_false', Int.not_lt, Int.not_le, ne_eq, Decidable.not_not] at hgb
                exact OpOK.sub (r := [(150, _), (5, _), (7, _), (12, _), (13, _), (14, _)]) ⟨congrArg some e20, rfl, rfl, rfl, rfl, rfl, trivial⟩ (by
                  exact OpOK.eq (r_load sc33 rfl (hB5.cell rfl)))
                ), (fun _ _ _ _ _ _ h => h), (FreeR.no _), ?_⟩
            refine ⟨_, false, (fun σ ι w1 hg hd hon => by
                have f12 := hd 12 (by decide) _ rfl
                have e12 : σ 12 = _ := f12.1 trivial
                have hgd : σ 12 = .bool true := hon
                have hgb := (f12.1 trivial : σ 12 = _).symm.trans hgd
                simp only [Value.bool.injEq] at hgb
                try simp only [decide_eq_true_eq, decide_eq_false_iff_not, Bool.or_eq_true, Bool.and_eq_true, Bool.or_eq_false_iff, Bool.and_eq_false_iff, Bool.not_eq_true', Bool.not_eq_false', Int.not_lt, Int.not_le, ne_eq, Decidable.not_not] at hgb
                exact OpOK.sub (r := [(5, _), (7, _), (12, _), (13, _), (14, _)]) ⟨rfl, rfl, rfl, rfl, rfl, trivial⟩ (by
                  exact OpOK.eq (r_fld fld50_2 rfl))
                ), (fun _ _ _ _ _ _ h => h), (FreeR.no _), ?_⟩
            refine ⟨_, false, (fun σ ι w1 hg hd hon => by
                have hN := hN.ofGr ((Gr.refl _).drew.trans hg)
                have hB5 := hB5.gr ((Gr.refl _).drew.trans hg)
                have hB12 := hB12.gr ((Gr.refl _).drew.trans hg)
                have hB13 := hB13.gr ((Gr.refl _).drew.trans hg)
                have hB14 := hB14.gr ((Gr.refl _).drew.trans hg)
                have f22 := hd 22 (by decide) _ rfl
                have f12 := hd 12 (by decide) _ rfl
                have e22 : σ 22 = _ := f22.1 hon
                have e12 : σ 12 = _ := f12.1 trivial
                have hgd : σ 12 = .bool true := hon
                have hgb := (f12.1 trivial : σ 12 = _).symm.trans hgd
                simp only [Value.bool.injEq] at hgb
                try simp only [decide_eq_true_eq, decide_eq_false_iff_not, Bool.or_eq_true, Bool.and_eq_true, Bool.or_eq_false_iff, Bool.and_eq_false_iff, Bool.not_eq_true', Bool.not_eq_false', Int.not_lt, Int.not_le, ne_eq, Decidable.not_not] at hgb
                exact OpOK.sub (r := [(152, _), (5, _), (7, _), (12, _), (13, _), (14, _)]) ⟨congrArg some e22, rfl, rfl, rfl, rfl, rfl, trivial⟩ (by
                  exact OpOK.eq (Box.loadO ag36 rfl hB5 (by simp)))
                ), (fun _ _ _ _ _ _ h => h), (FreeR.no _), ?_⟩
            refine ⟨_, false, (fun σ ι w1 hg hd hon => by
                have f12 := hd 12 (by decide) _ rfl
                have e12 : σ 12 = _ := f12.1 trivial
                have hgd : σ 12 = .bool true := hon
                have hgb := (f12.1 trivial : σ 12 = _).symm.trans hgd
                simp only [Value.bool.injEq] at hgb
                try simp only [decide_eq_true_eq, decide_eq_false_iff_not, Bool.or_eq_true, Bool.and_eq_true, Bool.or_eq_false_iff, Bool.and_eq_false_iff, Bool.not_eq_true', Bool.not_eq_false', Int.not_lt, Int.not_le, ne_eq, Decidable.not_not] at hgb
                exact OpOK.sub (r := [(5, _), (7, _), (12, _), (13, _), (14, _)]) ⟨rfl, rfl, rfl, rfl, rfl, trivial⟩ (by
                  exact OpOK.eq (r_fld fld50_3 rfl))
                ), (fun _ _ _ _ _ _ h => h), (FreeR.no _), ?_⟩
            refine ⟨_, false, (fun σ ι w1 hg hd hon => by
                have hN := hN.ofGr ((Gr.refl _).drew.trans hg)
                have hB5 := hB5.gr ((Gr.refl _).drew.trans hg)
                have hB12 := hB12.gr ((Gr.refl _).drew.trans hg)
                have hB13 := hB13.gr ((Gr.refl _).drew.trans hg)
                have hB14 := hB14.gr ((Gr.refl _).drew.trans hg)
                have f24 := hd 24 (by decide) _ rfl
                have f12 := hd 12 (by decide) _ rfl
                have e24 : σ 24 = _ := f24.1 hon
                have e12 : σ 12 = _ := f12.1 trivial
                have hgd : σ 12 = .bool true := hon
                have hgb := (f12.1 trivial : σ 12 = _).symm.trans hgd
                simp only [Value.bool.injEq] at hgb
                try simp only [decide_eq_true_eq, decide_eq_false_iff_not, Bool.or_eq_true, Bool.and_eq_true, Bool.or_eq_false_iff, Bool.and_eq_false_iff, Bool.not_eq_true', Bool.not_eq_false', Int.not_lt, Int.not_le, ne_eq, Decidable.not_not] at hgb
                exact OpOK.sub (r := [(154, _), (5, _), (7, _), (12, _), (13, _), (14, _)]) ⟨congrArg some e24, rfl, rfl, rfl, rfl, rfl, trivial⟩ (by
                  exact OpOK.eq (Box.loadO ag38 rfl hB5 (by simp)))
                ), (fun _ _ _ _ _ _ h => h), (FreeR.no _), ?_⟩
            refine ⟨_, true, (fun σ ι w1 hg hd hon => by
                have hN := hN.ofGr ((Gr.refl _).drew.trans hg)
                have hB5 := hB5.gr ((Gr.refl _).drew.trans hg)
                have hB12 := hB12.gr ((Gr.refl _).drew.trans hg)
                have hB13 := hB13.gr ((Gr.refl _).drew.trans hg)
                have hB14 := hB14.gr ((Gr.refl _).drew.trans hg)
                have f21 := hd 21 (by decide) _ rfl
                have f23 := hd 23 (by decide) _ rfl
                have f25 := hd 25 (by decide) _ rfl
                have f12 := hd 12 (by decide) _ rfl
                have e21 : σ 21 = _ := f21.1 hon
                have e23 : σ 23 = _ := f23.1 hon
                have e25 : σ 25 = _ := f25.1 hon
                have e12 : σ 12 = _ := f12.1 trivial
                have hgd : σ 12 = .bool true := hon
                have hgb := (f12.1 trivial : σ 12 = _).symm.trans hgd
                simp only [Value.bool.injEq] at hgb
                try simp only [decide_eq_true_eq, decide_eq_false_iff_not, Bool.or_eq_true, Bool.and_eq_true, Bool.or_eq_false_iff, Bool.and_eq_false_iff, Bool.not_eq_true', Bool.not_eq_false', Int.not_lt, Int.not_le, ne_eq, Decidable.not_not] at hgb
                skip
                exact CallOK.sub (r := [(151, _), (153, _), (155, _), (5, _), (7, _), (12, _), (13, _), (14, _)]) ⟨congrArg some e21, congrArg some e23, congrArg some e25, rfl, rfl, rfl, rfl, rfl, trivial⟩ (by
                  exact CallOK.V (enters_of rfl rfl hb27) (rcheck hN.sat hP hpc))
                ), (fun _ _ _ _ _ _ h => h), (fun _ _ _ _ _ _ h => h), ?_⟩
            refine ⟨_, false, (fun σ ι w1 hg hd hon => by
                have f19 := hd 19 (by decide) _ rfl
                have f26 := hd 26 (by decide) _ rfl
                have f12 := hd 12 (by decide) _ rfl
                have e19 : σ 19 = _ := f19.1 hon
                have e26 : σ 26 = _ := f26.1 hon
                have e12 : σ 12 = _ := f12.1 trivial
                have hgd : σ 12 = .bool true := hon
                have hgb := (f12.1 trivial : σ 12 = _).symm.trans hgd
                simp only [Value.bool.injEq] at hgb
                try simp only [decide_eq_true_eq, decide_eq_false_iff_not, Bool.or_eq_true, Bool.and_eq_true, Bool.or_eq_false_iff, Bool.and_eq_false_iff, Bool.not_eq_true', Bool.not_eq_false', Int.not_lt, Int.not_le, ne_eq, Decidable.not_not] at hgb
                exact OpOK.sub (r := [(149, _), (156, _), (5, _), (7, _), (12, _), (13, _), (14, _)]) ⟨congrArg some e19, congrArg some e26, rfl, rfl, rfl, rfl, rfl, trivial⟩ (by
                  exact OpOK.eq (r_eql rfl rfl))
                ), (fun _ _ _ _ _ _ h => h), (FreeR.no _), ?_⟩
            refine ⟨_, false, (fun σ ι w1 hg hd hon => by
                have f12 := hd 12 (by decide) _ rfl
                have f27 := hd 27 (by decide) _ rfl
                have e12 : σ 12 = _ := f12.1 trivial
                have ec : σ 12 = _ := f12.1 trivial
                exact OpOK.id (by refine OpOK.and (dc := 142) (dy := 157) (kc := σ 12) (ky := σ 27) ?_ ?_ ec (fun hb => f27.1 (by show σ 12 = _; rw [ec]; exact congrArg Value.bool hb)) <;> rfl)
                ), (fun _ _ _ _ _ _ h => h), (FreeR.no _), ?_⟩
            refine ⟨_, false, (fun σ ι w1 hg hd hon => by
                have f28 := hd 28 (by decide) _ rfl
                have e28 : σ 28 = _ := f28.1 trivial
                exact OpOK.sub (r := [(158, _), (5, _), (7, _), (12, _), (13, _), (14, _)]) ⟨congrArg some e28, rfl, rfl, rfl, rfl, rfl, trivial⟩ (by
                  exact OpOK.eq (r_move rfl))
                ), (fun _ _ _ _ _ _ h => h), (FreeR.no _), ?_⟩
            refine ⟨_, false, (fun σ ι w1 hg hd hon => by
                have f29 := hd 29 (by decide) _ rfl
                have e29 : σ 29 = _ := f29.1 trivial
                have hgd : σ 29 = .bool true := hon
                have hgb := (f29.1 trivial : σ 29 = _).symm.trans hgd
                simp only [Value.bool.injEq] at hgb
                try simp only [decide_eq_true_eq, decide_eq_false_iff_not, Bool.or_eq_true, Bool.and_eq_true, Bool.or_eq_false_iff, Bool.and_eq_false_iff, Bool.not_eq_true', Bool.not_eq_false', Int.not_lt, Int.not_le, ne_eq, Decidable.not_not] at hgb
                exact OpOK.sub (r := [(5, _), (7, _), (12, _), (13, _), (14, _)]) ⟨rfl, rfl, rfl, rfl, rfl, trivial⟩ (by
                  exact OpOK.eq (r_fld fld50_0 rfl))
                ), (fun _ _ _ _ _ _ h => h), (FreeR.no _), ?_⟩
            refine ⟨_, false, (fun σ ι w1 hg hd hon => by
                have hN := hN.ofGr ((Gr.refl _).drew.trans hg)
                have hB5 := hB5.gr ((Gr.refl _).drew.trans hg)
                have hB12 := hB12.gr ((Gr.refl _).drew.trans hg)
                have hB13 := hB13.gr ((Gr.refl _).drew.trans hg)
                have hB14 := hB14.gr ((Gr.refl _).drew.trans hg)
                have f30 := hd 30 (by decide) _ rfl
                have f29 := hd 29 (by decide) _ rfl
                have e30 : σ 30 = _ := f30.1 hon
                have e29 : σ 29 = _ := f29.1 trivial
                have hgd : σ 29 = .bool true := hon
                have hgb := (f29.1 trivial : σ 29 = _).symm.trans hgd
                simp only [Value.bool.injEq] at hgb
                try simp only [decide_eq_true_eq, decide_eq_false_iff_not, Bool.or_eq_true, Bool.and_eq_true, Bool.or_eq_false_iff, Bool.and_eq_false_iff, Bool.not_eq_true', Bool.not_eq_false', Int.not_lt, Int.not_le, ne_eq, Decidable.not_not] at hgb
                exact OpOK.sub (r := [(160, _), (5, _), (7, _), (12, _), (13, _), (14, _)]) ⟨congrArg some e30, rfl, rfl, rfl, rfl, rfl, trivial⟩ (by
                  exact OpOK.eq (r_load sc33 rfl (hB5.cell rfl)))
                ), (fun _ _ _ _ _ _ h => h), (FreeR.no _), ?_⟩
            refine ⟨_, false, (fun σ ι w1 hg hd hon => by
                have hN := hN.ofGr ((Gr.refl _).drew.trans hg)
                have hB5 := hB5.gr ((Gr.refl _).drew.trans hg)
                have hB12 := hB12.gr ((Gr.refl _).drew.trans hg)
                have hB13 := hB13.gr ((Gr.refl _).drew.trans hg)
                have hB14 := hB14.gr ((Gr.refl _).drew.trans hg)
                have f29 := hd 29 (by decide) _ rfl
                have e29 : σ 29 = _ := f29.1 trivial
                have hgd : σ 29 = .bool true := hon
                have hgb := (f29.1 trivial : σ 29 = _).symm.trans hgd
                simp only [Value.bool.injEq] at hgb
                try simp only [decide_eq_true_eq, decide_eq_false_iff_not, Bool.or_eq_true, Bool.and_eq_true, Bool.or_eq_false_iff, Bool.and_eq_false_iff, Bool.not_eq_true', Bool.not_eq_false', Int.not_lt, Int.not_le, ne_eq, Decidable.not_not] at hgb
                exact OpOK.sub (r := [(5, _), (7, _), (12, _), (13, _), (14, _)]) ⟨rfl, rfl, rfl, rfl, rfl, trivial⟩ (by
                  exact OpOK.eq (r_loadA (cs := [_, _]) ag36 rfl hB12.agg))
                ), (fun _ _ _ _ _ _ h => h), (FreeR.no _), ?_⟩
            refine ⟨_, false, (fun σ ι w1 hg hd hon => by
                have f29 := hd 29 (by decide) _ rfl
                have e29 : σ 29 = _ := f29.1 trivial
                have hgd : σ 29 = .bool true := hon
                have hgb := (f29.1 trivial : σ 29 = _).symm.trans hgd
                simp only [Value.bool.injEq] at hgb
                try simp only [decide_eq_true_eq, decide_eq_false_iff_not, Bool.or_eq_true, Bool.and_eq_true, Bool.or_eq_false_iff, Bool.and_eq_false_iff, Bool.not_eq_true', Bool.not_eq_false', Int.not_lt, Int.not_le, ne_eq, Decidable.not_not] at hgb
                exact OpOK.sub (r := [(5, _), (7, _), (12, _), (13, _), (14, _)]) ⟨rfl, rfl, rfl, rfl, rfl, trivial⟩ (by
                  exact OpOK.eq (r_fld fld50_3 rfl))
                ), (fun _ _ _ _ _ _ h => h), (FreeR.no _), ?_⟩
            refine ⟨_, false, (fun σ ι w1 hg hd hon => by
                have hN := hN.ofGr ((Gr.refl _).drew.trans hg)
                have hB5 := hB5.gr ((Gr.refl _).drew.trans hg)
                have hB12 := hB12.gr ((Gr.refl _).drew.trans hg)
                have hB13 := hB13.gr ((Gr.refl _).drew.trans hg)
                have hB14 := hB14.gr ((Gr.refl _).drew.trans hg)
                have f33 := hd 33 (by decide) _ rfl
                have f29 := hd 29 (by decide) _ rfl
                have e33 : σ 33 = _ := f33.1 hon
                have e29 : σ 29 = _ := f29.1 trivial
                have hgd : σ 29 = .bool true := hon
                have hgb := (f29.1 trivial : σ 29 = _).symm.trans hgd
                simp only [Value.bool.injEq] at hgb
                try simp only [decide_eq_true_eq, decide_eq_false_iff_not, Bool.or_eq_true, Bool.and_eq_true, Bool.or_eq_false_iff, Bool.and_eq_false_iff, Bool.not_eq_true', Bool.not_eq_false', Int.not_lt, Int.not_le, ne_eq, Decidable.not_not] at hgb
                exact OpOK.sub (r := [(163, _), (5, _), (7, _), (12, _), (13, _), (14, _)]) ⟨congrArg some e33, rfl, rfl, rfl, rfl, rfl, trivial⟩ (by
                  exact OpOK.eq (Box.loadO ag38 rfl hB5 (by simp)))
                ), (fun _ _ _ _ _ _ h => h), (FreeR.no _), ?_⟩
            refine ⟨_, true, (fun σ ι w1 hg hd hon => by
                have hN := hN.ofGr ((Gr.refl _).drew.trans hg)
                have hB5 := hB5.gr ((Gr.refl _).drew.trans hg)
                have hB12 := hB12.gr ((Gr.refl _).drew.trans hg)
                have hB13 := hB13.gr ((Gr.refl _).drew.trans hg)
                have hB14 := hB14.gr ((Gr.refl _).drew.trans hg)
                have f31 := hd 31 (by decide) _ rfl
                have f32 := hd 32 (by decide) _ rfl
                have f34 := hd 34 (by decide) _ rfl
                have f29 := hd 29 (by decide) _ rfl
                have e31 : σ 31 = _ := f31.1 hon
                have e32 : σ 32 = _ := f32.1 hon
                have e34 : σ 34 = _ := f34.1 hon
                have e29 : σ 29 = _ := f29.1 trivial
                have hgd : σ 29 = .bool true := hon
                have hgb := (f29.1 trivial : σ 29 = _).symm.trans hgd
                simp only [Value.bool.injEq] at hgb
                try simp only [decide_eq_true_eq, decide_eq_false_iff_not, Bool.or_eq_true, Bool.and_eq_true, Bool.or_eq_false_iff, Bool.and_eq_false_iff, Bool.not_eq_true', Bool.not_eq_false', Int.not_lt, Int.not_le, ne_eq, Decidable.not_not] at hgb
                skip
                exact CallOK.sub (r := [(161, _), (162, _), (164, _), (5, _), (7, _), (12, _), (13, _), (14, _)]) ⟨congrArg some e31, congrArg some e32, congrArg some e34, rfl, rfl, rfl, rfl, rfl, trivial⟩ (by
                  exact CallOK.V (enters_of rfl rfl hb12) (br_check (n := (d.length : Int)) hN.sat hP hpc))
                ), (fun _ _ _ _ _ _ h => h), (fun _ _ _ _ _ _ h => h), ?_⟩
            refine ⟨_, false, (fun σ ι w1 hg hd hon => by
                have f29 := hd 29 (by decide) _ rfl
                have e29 : σ 29 = _ := f29.1 trivial
                have hgd : σ 29 = .bool true := hon
                have hgb := (f29.1 trivial : σ 29 = _).symm.trans hgd
                simp only [Value.bool.injEq] at hgb
                try simp only [decide_eq_true_eq, decide_eq_false_iff_not, Bool.or_eq_true, Bool.and_eq_true, Bool.or_eq_false_iff, Bool.and_eq_false_iff, Bool.not_eq_true', Bool.not_eq_false', Int.not_lt, Int.not_le, ne_eq, Decidable.not_not] at hgb
                exact OpOK.sub (r := [(5, _), (7, _), (12, _), (13, _), (14, _)]) ⟨rfl, rfl, rfl, rfl, rfl, trivial⟩ (by
                  exact OpOK.eq (r_fld fld50_0 rfl))
                ), (fun _ _ _ _ _ _ h => h), (FreeR.no _), ?_⟩
            refine ⟨_, false, (fun σ ι w1 hg hd hon => by
                have hN := hN.ofGr ((Gr.refl _).drew.trans hg)
                have hB5 := hB5.gr ((Gr.refl _).drew.trans hg)
                have hB12 := hB12.gr ((Gr.refl _).drew.trans hg)
                have hB13 := hB13.gr ((Gr.refl _).drew.trans hg)
                have hB14 := hB14.gr ((Gr.refl _).drew.trans hg)
                have f36 := hd 36 (by decide) _ rfl
                have f29 := hd 29 (by decide) _ rfl
                have e36 : σ 36 = _ := f36.1 hon
                have e29 : σ 29 = _ := f29.1 trivial
                have hgd : σ 29 = .bool true := hon
                have hgb := (f29.1 trivial : σ 29 = _).symm.trans hgd
                simp only [Value.bool.injEq] at hgb
                try simp only [decide_eq_true_eq, decide_eq_false_iff_not, Bool.or_eq_true, Bool.and_eq_true, Bool.or_eq_false_iff, Bool.and_eq_false_iff, Bool.not_eq_true', Bool.not_eq_false', Int.not_lt, Int.not_le, ne_eq, Decidable.not_not] at hgb
                exact OpOK.sub (r := [(166, _), (5, _), (7, _), (12, _), (13, _), (14, _)]) ⟨congrArg some e36, rfl, rfl, rfl, rfl, rfl, trivial⟩ (by
                  exact OpOK.eq (r_load sc33 rfl (hB5.cell rfl)))
                ), (fun _ _ _ _ _ _ h => h), (FreeR.no _), ?_⟩
            refine ⟨_, false, (fun σ ι w1 hg hd hon => by
                have hN := hN.ofGr ((Gr.refl _).drew.trans hg)
                have hB5 := hB5.gr ((Gr.refl _).drew.trans hg)
                have hB12 := hB12.gr ((Gr.refl _).drew.trans hg)
                have hB13 := hB13.gr ((Gr.refl _).drew.trans hg)
                have hB14 := hB14.gr ((Gr.refl _).drew.trans hg)
                have f29 := hd 29 (by decide) _ rfl
                have e29 : σ 29 = _ := f29.1 trivial
                have hgd : σ 29 = .bool true := hon
                have hgb := (f29.1 trivial : σ 29 = _).symm.trans hgd
                simp only [Value.bool.injEq] at hgb
                try simp only [decide_eq_true_eq, decide_eq_false_iff_not, Bool.or_eq_true, Bool.and_eq_true, Bool.or_eq_false_iff, Bool.and_eq_false_iff, Bool.not_eq_true', Bool.not_eq_false', Int.not_lt, Int.not_le, ne_eq, Decidable.not_not] at hgb
                exact OpOK.sub (r := [(5, _), (7, _), (12, _), (13, _), (14, _)]) ⟨rfl, rfl, rfl, rfl, rfl, trivial⟩ (by
                  exact OpOK.eq (r_loadA (cs := [_, _]) ag36 rfl hB12.agg))
                ), (fun _ _ _ _ _ _ h => h), (FreeR.no _), ?_⟩
            refine ⟨_, false, (fun σ ι w1 hg hd hon => by
                have f29 := hd 29 (by decide) _ rfl
                have e29 : σ 29 = _ := f29.1 trivial
                have hgd : σ 29 = .bool true := hon
                have hgb := (f29.1 trivial : σ 29 = _).symm.trans hgd
                simp only [Value.bool.injEq] at hgb
                try simp only [decide_eq_true_eq, decide_eq_false_iff_not, Bool.or_eq_true, Bool.and_eq_true, Bool.or_eq_false_iff, Bool.and_eq_false_iff, Bool.not_eq_true', Bool.not_eq_false', Int.not_lt, Int.not_le, ne_eq, Decidable.not_not] at hgb
                exact OpOK.sub (r := [(5, _), (7, _), (12, _), (13, _), (14, _)]) ⟨rfl, rfl, rfl, rfl, rfl, trivial⟩ (by
                  exact OpOK.eq (r_fld fld50_3 rfl))
                ), (fun _ _ _ _ _ _ h => h), (FreeR.no _), ?_⟩
            refine ⟨_, false, (fun σ ι w1 hg hd hon => by
                have hN := hN.ofGr ((Gr.refl _).drew.trans hg)
                have hB5 := hB5.gr ((Gr.refl _).drew.trans hg)
                have hB12 := hB12.gr ((Gr.refl _).drew.trans hg)
                have hB13 := hB13.gr ((Gr.refl _).drew.trans hg)
                have hB14 := hB14.gr ((Gr.refl _).drew.trans hg)
                have f39 := hd 39 (by decide) _ rfl
                have f29 := hd 29 (by decide) _ rfl
                have e39 : σ 39 = _ := f39.1 hon
                have e29 : σ 29 = _ := f29.1 trivial
                have hgd : σ 29 = .bool true := hon
                have hgb := (f29.1 trivial : σ 29 = _).symm.trans hgd
                simp only [Value.bool.injEq] at hgb
                try simp only [decide_eq_true_eq, decide_eq_false_iff_not, Bool.or_eq_true, Bool.and_eq_true, Bool.or_eq_false_iff, Bool.and_eq_false_iff, Bool.not_eq_true', Bool.not_eq_false', Int.not_lt, Int.not_le, ne_eq, Decidable.not_not] at hgb
                exact OpOK.sub (r := [(169, _), (5, _), (7, _), (12, _), (13, _), (14, _)]) ⟨congrArg some e39, rfl, rfl, rfl, rfl, rfl, trivial⟩ (by
                  exact OpOK.eq (Box.loadO ag38 rfl hB5 (by simp)))
                ), (fun _ _ _ _ _ _ h => h), (FreeR.no _), ?_⟩
            refine ⟨_, true, (fun σ ι w1 hg hd hon => by
                have hN := hN.ofGr ((Gr.refl _).drew.trans hg)
                have hB5 := hB5.gr ((Gr.refl _).drew.trans hg)
                have hB12 := hB12.gr ((Gr.refl _).drew.trans hg)
                have hB13 := hB13.gr ((Gr.refl _).drew.trans hg)
                have hB14 := hB14.gr ((Gr.refl _).drew.trans hg)
                have f37 := hd 37 (by decide) _ rfl
                have f38 := hd 38 (by decide) _ rfl
                have f40 := hd 40 (by decide) _ rfl
                have f29 := hd 29 (by decide) _ rfl
                have e37 : σ 37 = _ := f37.1 hon
                have e38 : σ 38 = _ := f38.1 hon
                have e40 : σ 40 = _ := f40.1 hon
                have e29 : σ 29 = _ := f29.1 trivial
                have hgd : σ 29 = .bool true := hon
                have hgb := (f29.1 trivial : σ 29 = _).symm.trans hgd
                simp only [Value.bool.injEq] at hgb
                try simp only [decide_eq_true_eq, decide_eq_false_iff_not, Bool.or_eq_true, Bool.and_eq_true, Bool.or_eq_false_iff, Bool.and_eq_false_iff, Bool.not_eq_true', Bool.not_eq_false', Int.not_lt, Int.not_le, ne_eq, Decidable.not_not] at hgb
                skip
                exact CallOK.sub (r := [(167, _), (168, _), (170, _), (5, _), (7, _), (12, _), (13, _), (14, _)]) ⟨congrArg some e37, congrArg some e38, congrArg some e40, rfl, rfl, rfl, rfl, rfl, trivial⟩ (by
                  exact CallOK.V (enters_of rfl rfl hb27) (rcheck (n := (d.length : Int)) hN.sat hP hpc))
                ), (fun _ _ _ _ _ _ h => h), (fun _ _ _ _ _ _ h => h), ?_⟩
            refine ⟨_, false, (fun σ ι w1 hg hd hon => by
                have f35 := hd 35 (by decide) _ rfl
                have f41 := hd 41 (by decide) _ rfl
                have f29 := hd 29 (by decide) _ rfl
                have e35 : σ 35 = _ := f35.1 hon
                have e41 : σ 41 = _ := f41.1 hon
                have e29 : σ 29 = _ := f29.1 trivial
                have hgd : σ 29 = .bool true := hon
                have hgb := (f29.1 trivial : σ 29 = _).symm.trans hgd
                simp only [Value.bool.injEq] at hgb
                try simp only [decide_eq_true_eq, decide_eq_false_iff_not, Bool.or_eq_true, Bool.and_eq_true, Bool.or_eq_false_iff, Bool.and_eq_false_iff, Bool.not_eq_true', Bool.not_eq_false', Int.not_lt, Int.not_le, ne_eq, Decidable.not_not] at hgb
                exact OpOK.sub (r := [(165, _), (171, _), (5, _), (7, _), (12, _), (13, _), (14, _)]) ⟨congrArg some e35, congrArg some e41, rfl, rfl, rfl, rfl, rfl, trivial⟩ (by
                  exact OpOK.eq (r_eql rfl rfl))
                ), (fun _ _ _ _ _ _ h => h), (FreeR.no _), ?_⟩
            refine ⟨_, false, (fun σ ι w1 hg hd hon => by
                have f29 := hd 29 (by decide) _ rfl
                have f42 := hd 42 (by decide) _ rfl
                have e29 : σ 29 = _ := f29.1 trivial
                have ec : σ 29 = _ := f29.1 trivial
                exact OpOK.id (by refine OpOK.and (dc := 159) (dy := 172) (kc := σ 29) (ky := σ 42) ?_ ?_ ec (fun hb => f42.1 (by show σ 29 = _; rw [ec]; exact congrArg Value.bool hb)) <;> rfl)
                ), (fun _ _ _ _ _ _ h => h), (FreeR.no _), ?_⟩
            intro σ ι a50 w21 hgw21 H105 hd hap
            skip
            have hN0 := hN
            have hN := hN.ofGr ((Gr.refl _).drew.trans hgw21)
            replace hB5 := hB5.gr ((Gr.refl _).drew.trans hgw21)
            replace hB12 := hB12.gr ((Gr.refl _).drew.trans hgw21)
            replace hB13 := hB13.gr ((Gr.refl _).drew.trans hgw21)
            replace hB14 := hB14.gr ((Gr.refl _).drew.trans hgw21)
            have e43 : σ 43 = _ := (hd 43 (by decide) _ rfl).1 trivial
            replace H105 := H105.sub (r := [(173, _), (5, _), (7, _), (12, _), (13, _), (14, _)]) ⟨congrArg some e43, rfl, rfl, rfl, rfl, rfl, trivial⟩
            clear hd
            clear hap
            refine wl1 H105 (r_move rfl) rfl rfl rfl rfl fun a51 H106 => ?_
            clear H105 a50
            refine wl_split (t := 174) H106 rfl (fun hg17_44 H107 => ?_) (fun hg17_44 H107 => ?_)
            ·
              clear H106
              try simp only [decide_eq_true_eq, decide_eq_false_iff_not, Bool.or_eq_true, Bool.and_eq_true, Bool.or_eq_false_iff, Bool.and_eq_false_iff, Bool.not_eq_true', Bool.not_eq_false', Int.not_lt, Int.not_le, ne_eq, Decidable.not_not] at hg17_44
              refine wl_on (d := 174) H107 rfl rfl rfl ?_
              refine wl1 H107 (r_move rfl) rfl rfl rfl rfl fun a52 H108 => ?_
              clear H107 a51
              refine wl1 H108 (r_pick_t rfl rfl) rfl rfl rfl rfl fun a53 H109 => ?_
              clear H108 a52
              replace H109 := H109.known (t := 176) (b := true) rfl (by simp)
              refine wl1 H109 (r_assign rfl) rfl rfl rfl rfl fun a54 H110 => ?_
              clear H109 a53
              refine wl_end ?_
              refine th_n ?_
              refine wpIn_ret ?_
              refine fin_r H110 (res1 rfl H110 rfl) ?_
              exact ⟨rfl, hN.gr⟩
            ·
              clear H106
              try simp only [decide_eq_true_eq, decide_eq_false_iff_not, Bool.or_eq_true, Bool.and_eq_true, Bool.or_eq_false_iff, Bool.and_eq_false_iff, Bool.not_eq_true', Bool.not_eq_false', Int.not_lt, Int.not_le, ne_eq, Decidable.not_not] at hg17_44
              exact absurd hg17_44 (by simp)
        ·
          clear H63
          try simp only [decide_eq_true_eq, decide_eq_false_iff_not, Bool.or_eq_true, Bool.and_eq_true, Bool.or_eq_false_iff, Bool.and_eq_false_iff, Bool.not_eq_true', Bool.not_eq_false', Int.not_lt, Int.not_le, ne_eq, Decidable.not_not] at hg10_4
          refine wl_off (d := 89) H64 rfl rfl rfl rfl rfl rfl fun a39 H111 => ?_
          clear H64 a38
          refine wl_off (d := 89) H111 rfl rfl rfl rfl rfl rfl fun a40 H112 => ?_
          clear H111 a39
          refine wl1 H112 (r_pick_f rfl rfl) rfl rfl rfl rfl fun a41 H113 => ?_
          clear H112 a40
          refine wl_end ?_
          refine th_n ?_
          refine w_ff H113 rfl rfl ?_
          refine wpIn_exit ?_
          refine th_x ?_
          refine th_x ?_
          refine bl_hit ?_
          refine th_n ?_
          refine wpIn_seq ?_
          refine w_reg ?_
          refine wl1 H113 (r_move rfl) rfl rfl rfl rfl fun a42 H114 => ?_
          clear H113 a41
          refine wl1 H114 (r_len Try.underlying22 rfl) rfl rfl rfl rfl fun a43 H115 => ?_
          clear H114 a42
          refine wl1 H115 (r_fld fld50_2 rfl) rfl rfl rfl rfl fun a44 H116 => ?_
          clear H115 a43
          refine wl1 H116 (r_fld fld36_1 rfl) rfl rfl rfl rfl fun a45 H117 => ?_
          clear H116 a44
          refine wl1 H117 (r_load sc22 rfl (hB5.cell rfl)) rfl rfl rfl rfl fun a46 H118 => ?_
          clear H117 a45
          refine wl1 H118 (r_build (v := .agg #[.int .i64 (d.length : Int), .slice C p.length cp]) rfl (fun w => by kernel_rfl)) rfl rfl rfl rfl fun a47 H119 => ?_
          clear H118 a46
          refine s_alloc H119 zv36 rfl hN fun w22 b12 hN gw22 hB12 hgeb12 heb12 a48 H120 => ?_
          clear H119 a47
          replace hB12 : Box _ _ _ [.int .i64 0, .slice none 0 0] 36 := hB12
          have hne_hB5_b12 := hB5.lt
          rw [← heb12] at hne_hB5_b12
          replace hB5 := hB5.gr gw22
          refine s_storeA (vs := [_, _]) H120 sz36 (by simp) (by simp [Value.oneCell']) rfl rfl hN hB12 (by simp) hgeb12 fun w23 hN hB12 ew23 H121 => ?_
          clear H120
          replace hB5 := hB5.otherE ew23 (by omega)
          simp only [Nat.zero_add, Nat.add_zero, Nat.reduceAdd, Nat.reduceMul, List.set_cons_zero, List.set_cons_succ, spliceL] at hB12
          clear ew23
          refine wl_end ?_
          refine th_n ?_
          refine wpIn_seq ?_
          have hS0 := hN.sat
          have hNsz16 := hN.gr.size
          have hlt_hB5_16 := hB5.lt
          have hlt_hB12_16 := hB12.lt
          refine w_drawE (m := 12) (l0 := [(5, _), (7, _), (8, _), (12, _)]) hfol H121 ⟨rfl, rfl, rfl, rfl, trivial⟩ (by kernel_rfl) ?_
          refine ⟨_, false, (fun σ ι w1 hg hd hon => by
              exact OpOK.sub (r := [(5, _), (7, _), (8, _), (12, _)]) ⟨rfl, rfl, rfl, rfl, trivial⟩ (by
                exact OpOK.eq (r_move rfl))
              ), (fun _ _ _ _ _ _ h => h), (FreeR.no _), ?_⟩
          refine ⟨_, false, (fun σ ι w1 hg hd hon => by
              exact OpOK.sub (r := [(5, _), (7, _), (8, _), (12, _)]) ⟨rfl, rfl, rfl, rfl, trivial⟩ (by
                exact OpOK.eq (r_fld fld50_3 rfl))
              ), (fun _ _ _ _ _ _ h => h), (FreeR.no _), ?_⟩
          refine ⟨_, false, (fun σ ι w1 hg hd hon => by
              have f1 := hd 1 (by decide) _ rfl
              have e1 : σ 1 = _ := f1.1 trivial
              exact OpOK.sub (r := [(121, _), (5, _), (7, _), (8, _), (12, _)]) ⟨congrArg some e1, rfl, rfl, rfl, rfl, trivial⟩ (by
                exact OpOK.eq (r_fld fld38_0 rfl))
              ), (fun _ _ _ _ _ _ h => h), (FreeR.no _), ?_⟩
          refine ⟨_, false, (fun σ ι w1 hg hd hon => by
              have hN := hN.ofGr ((Gr.refl _).drew.trans hg)
              have hB5 := hB5.gr ((Gr.refl _).drew.trans hg)
              have hB12 := hB12.gr ((Gr.refl _).drew.trans hg)
              have f2 := hd 2 (by decide) _ rfl
              have e2 : σ 2 = _ := f2.1 trivial
              exact OpOK.sub (r := [(122, _), (5, _), (7, _), (8, _), (12, _)]) ⟨congrArg some e2, rfl, rfl, rfl, rfl, trivial⟩ (by
                exact OpOK.eq (r_load sc3 rfl (hB5.cell rfl)))
              ), (fun _ _ _ _ _ _ h => h), (FreeR.no _), ?_⟩
          refine ⟨_, true, (fun σ ι w1 hg hd hon => by
              have hN := hN.ofGr ((Gr.refl _).drew.trans hg)
              have hB5 := hB5.gr ((Gr.refl _).drew.trans hg)
              have hB12 := hB12.gr ((Gr.refl _).drew.trans hg)
              have f0 := hd 0 (by decide) _ rfl
              have f3 := hd 3 (by decide) _ rfl
              have e0 : σ 0 = _ := f0.1 trivial
              have e3 : σ 3 = _ := f3.1 trivial
              skip
              exact CallOK.sub (r := [(120, _), (123, _), (5, _), (7, _), (8, _), (12, _)]) ⟨congrArg some e0, congrArg some e3, rfl, rfl, rfl, rfl, trivial⟩ (by
                exact CallOK.M (Φ := PP d i) (enters_of rfl rfl hb11) (br_pathOfΦ (l := d) hN.sat hE1 (by omega) hc1))
              ), (by exact monoOwn (J := J6) (Φ := fun _ => PP d i)), (fun _ _ _ _ _ _ h => h), ?_⟩
          refine ⟨_, false, (fun σ ι w1 hg hd hon => by
              exact OpOK.sub (r := [(5, _), (7, _), (8, _), (12, _)]) ⟨rfl, rfl, rfl, rfl, trivial⟩ (by
                exact OpOK.eq (r_move rfl))
              ), (fun _ _ _ _ _ _ h => h), (FreeR.no _), ?_⟩
          refine ⟨_, false, (fun σ ι w1 hg hd hon => by
              exact OpOK.sub (r := [(5, _), (7, _), (8, _), (12, _)]) ⟨rfl, rfl, rfl, rfl, trivial⟩ (by
                exact OpOK.eq (r_fld fld50_3 rfl))
              ), (fun _ _ _ _ _ _ h => h), (FreeR.no _), ?_⟩
          refine ⟨_, false, (fun σ ι w1 hg hd hon => by
              have f6 := hd 6 (by decide) _ rfl
              have e6 : σ 6 = _ := f6.1 trivial
              exact OpOK.sub (r := [(126, _), (5, _), (7, _), (8, _), (12, _)]) ⟨congrArg some e6, rfl, rfl, rfl, rfl, trivial⟩ (by
                exact OpOK.eq (r_fld fld38_0 rfl))
              ), (fun _ _ _ _ _ _ h => h), (FreeR.no _), ?_⟩
          refine ⟨_, false, (fun σ ι w1 hg hd hon => by
              have hN := hN.ofGr ((Gr.refl _).drew.trans hg)
              have hB5 := hB5.gr ((Gr.refl _).drew.trans hg)
              have hB12 := hB12.gr ((Gr.refl _).drew.trans hg)
              have f7 := hd 7 (by decide) _ rfl
              have e7 : σ 7 = _ := f7.1 trivial
              exact OpOK.sub (r := [(127, _), (5, _), (7, _), (8, _), (12, _)]) ⟨congrArg some e7, rfl, rfl, rfl, rfl, trivial⟩ (by
                exact OpOK.eq (r_load sc3 rfl (hB5.cell rfl)))
              ), (fun _ _ _ _ _ _ h => h), (FreeR.no _), ?_⟩
          refine ⟨_, true, (fun σ ι w1 hg hd hon => by
              have hN := hN.ofGr ((Gr.refl _).drew.trans hg)
              have hB5 := hB5.gr ((Gr.refl _).drew.trans hg)
              have hB12 := hB12.gr ((Gr.refl _).drew.trans hg)
              have f5 := hd 5 (by decide) _ rfl
              have f8 := hd 8 (by decide) _ rfl
              have e5 : σ 5 = _ := f5.1 trivial
              have e8 : σ 8 = _ := f8.1 trivial
              skip
              exact CallOK.sub (r := [(125, _), (128, _), (5, _), (7, _), (8, _), (12, _)]) ⟨congrArg some e5, congrArg some e8, rfl, rfl, rfl, rfl, trivial⟩ (by
                exact CallOK.M (Φ := PP d i) (enters_of rfl rfl hb26) (rpathΦ (l := d) hN.sat hE1 (by omega) hc1))
              ), (by exact monoOwn (J := J6) (Φ := fun _ => PP d i)), (fun _ _ _ _ _ _ h => h), ?_⟩
          refine ⟨_, false, (fun σ ι w1 hg hd hon => by
              exact OpOK.sub (r := [(5, _), (7, _), (8, _), (12, _)]) ⟨rfl, rfl, rfl, rfl, trivial⟩ (by exact OpOK.alloc (cs := [.slice none 0 0, .int .i64 0]) zv29 rfl)
              ), (by intro σ v q w w' hg h; obtain ⟨h1, h2, h3⟩ := h; exact ⟨h1, h2, h3.gr hg⟩), (FreeR.no _), ?_⟩
          refine ⟨_, false, (fun σ ι w1 hg hd hon => by
              exact OpOK.sub (r := [(5, _), (7, _), (8, _), (12, _)]) ⟨rfl, rfl, rfl, rfl, trivial⟩ (by exact OpOK.alloc (cs := [.slice none 0 0, .int .i64 0]) zv29 rfl)
              ), (by intro σ v q w w' hg h; obtain ⟨h1, h2, h3⟩ := h; exact ⟨h1, h2, h3.gr hg⟩), (FreeR.no _), ?_⟩
          intro σ ι a49 w25 hgw25 H122 hd hap
          skip
          have hN0 := hN
          have hN := hN.ofGr ((Gr.refl _).drew.trans hgw25)
          have hNd := (New.refl (hS0.drewS)).ofGr hgw25
          obtain ⟨K4, hP4, A4, c4, e4, hc4, hE4⟩ := (hd 4 (by decide) _ rfl).1 trivial
          replace hE4 := hE4.up (joinI_right hNd.sat hP4.sat)
          replace hNd := hNd.part hNd.le hP4 (hap.1 4 (by decide)).1
          obtain ⟨K9, hP9, A5, c5, e9, hc5, hE5⟩ := (hd 9 (by decide) _ rfl).1 trivial
          replace hE5 := hE5.up (joinI_right hNd.sat hP9.sat)
          replace hE4 := hE4.up (joinI_left (joinI J6 K4) K9)
          replace hNd := hNd.part hNd.le hP9 (hap.1 9 (by decide)).1
          replace hB5 := (hB5.gr (Gr.refl _).drew).next hNd
          replace hB12 := (hB12.gr (Gr.refl _).drew).next hNd
          replace hA := hA.up hNd.le
          replace hE0 := hE0.up hNd.le
          replace hP := hP.up hNd.le
          replace hE1 := hE1.up hNd.le
          replace hleJ1 := hleJ1.trans hNd.le
          have hN := hN0.drew.trans hNd
          obtain ⟨e10, hlqb13, hblb13⟩ := (hd 10 (by decide) _ rfl).1 trivial
          have hg0b13 := (hap.1 10 (by decide)).1
          have hJ0b13 := hS0.fresh hg0b13
          have hB13 : Box (joinI (joinI J6 K4) K9) w25 _ [.slice none 0 0, .int .i64 0] 29 := ⟨hblb13, (joinI_none (joinI_none hJ0b13 (hP4.none hJ0b13 (by have := hap.2 4 10 (by decide) (by decide) (by decide); omega))) (hP9.none hJ0b13 (by have := hap.2 9 10 (by decide) (by decide) (by decide); omega)))⟩
          obtain ⟨e11, hlqb14, hblb14⟩ := (hd 11 (by decide) _ rfl).1 trivial
          have hg0b14 := (hap.1 11 (by decide)).1
          have hJ0b14 := hS0.fresh hg0b14
          have hB14 : Box (joinI (joinI J6 K4) K9) w25 _ [.slice none 0 0, .int .i64 0] 29 := ⟨hblb14, (joinI_none (joinI_none hJ0b14 (hP4.none hJ0b14 (by have := hap.2 4 11 (by decide) (by decide) (by decide); omega))) (hP9.none hJ0b14 (by have := hap.2 9 11 (by decide) (by decide) (by decide); omega)))⟩
          replace H122 := H122.sub (r := [(124, _), (129, _), (13, _), (14, _), (5, _), (7, _), (8, _), (12, _)]) ⟨congrArg some e4, congrArg some e9, congrArg some e10, congrArg some e11, rfl, rfl, rfl, rfl, trivial⟩
          clear hd
          have hne_hB13_b14 : (ι 10).1 ≠ (ι 11).1 := by have := hap.2 10 11 (by decide) (by decide) (by decide); omega
          have hgeb13 := Nat.le_trans hNsz16 hg0b13
          clear hlqb13 hblb13 hJ0b13
          have hne_hB5_b13 := Nat.lt_of_lt_of_le hlt_hB5_16 hg0b13
          have hne_hB12_b13 := Nat.lt_of_lt_of_le hlt_hB12_16 hg0b13
          have hgeb14 := Nat.le_trans hNsz16 hg0b14
          clear hlqb14 hblb14 hJ0b14
          have hne_hB5_b14 := Nat.lt_of_lt_of_le hlt_hB5_16 hg0b14
          have hne_hB12_b14 := Nat.lt_of_lt_of_le hlt_hB12_16 hg0b14
          generalize (ι 10).1 = b13 at *
          generalize (ι 11).1 = b14 at *
          clear hap
          refine s_storeA (vs := [_, _]) H122 sz29 (by simp) (by simp [Value.oneCell']) rfl rfl hN hB13 (by simp) hgeb13 fun w26 hN hB13 ew26 H123 => ?_
          clear H122
          replace hB5 := hB5.otherE ew26 (by omega)
          replace hB12 := hB12.otherE ew26 (by omega)
          replace hB14 := hB14.otherE ew26 (by omega)
          simp only [Nat.zero_add, Nat.add_zero, Nat.reduceAdd, Nat.reduceMul, List.set_cons_zero, List.set_cons_succ, spliceL] at hB13
          clear ew26
          refine s_storeA (vs := [_, _]) H123 sz29 (by simp) (by simp [Value.oneCell']) rfl rfl hN hB14 (by simp) hgeb14 fun w27 hN hB14 ew27 H124 => ?_
          clear H123
          replace hB5 := hB5.otherE ew27 (by omega)
          replace hB12 := hB12.otherE ew27 (by omega)
          replace hB13 := hB13.otherE ew27 (by omega)
          simp only [Nat.zero_add, Nat.add_zero, Nat.reduceAdd, Nat.reduceMul, List.set_cons_zero, List.set_cons_succ, spliceL] at hB14
          clear ew27
          refine wl_end ?_
          refine th_n ?_
          refine wpIn_seq ?_
          have hS0 := hN.sat
          have hNsz17 := hN.gr.size
          refine w_drawE (m := 44) (l0 := [(5, _), (7, _), (12, _), (13, _), (14, _)]) hfol H124 ⟨rfl, rfl, rfl, rfl, rfl, trivial⟩ (by kernel_rfl) ?_
          refine ⟨_, false, (fun σ ι w1 hg hd hon => by
              exact OpOK.sub (r := [(5, _), (7, _), (12, _), (13, _), (14, _)]) ⟨rfl, rfl, rfl, rfl, rfl, trivial⟩ (by
                exact OpOK.eq (r_fld fld29_1 rfl))
              ), (fun _ _ _ _ _ _ h => h), (FreeR.no _), ?_⟩
          refine ⟨_, false, (fun σ ι w1 hg hd hon => by
              have hN := hN.ofGr ((Gr.refl _).drew.trans hg)
              have hB5 := hB5.gr ((Gr.refl _).drew.trans hg)
              have hB12 := hB12.gr ((Gr.refl _).drew.trans hg)
              have hB13 := hB13.gr ((Gr.refl _).drew.trans hg)
              have hB14 := hB14.gr ((Gr.refl _).drew.trans hg)
              have f0 := hd 0 (by decide) _ rfl
              have e0 : σ 0 = _ := f0.1 trivial
              exact OpOK.sub (r := [(130, _), (5, _), (7, _), (12, _), (13, _), (14, _)]) ⟨congrArg some e0, rfl, rfl, rfl, rfl, rfl, trivial⟩ (by
                exact OpOK.eq (r_load sc27 rfl (hB13.cell rfl)))
              ), (fun _ _ _ _ _ _ h => h), (FreeR.no _), ?_⟩
          refine ⟨_, false, (fun σ ι w1 hg hd hon => by
              exact OpOK.sub (r := [(5, _), (7, _), (12, _), (13, _), (14, _)]) ⟨rfl, rfl, rfl, rfl, rfl, trivial⟩ (by
                exact OpOK.eq (r_fld fld29_1 rfl))
              ), (fun _ _ _ _ _ _ h => h), (FreeR.no _), ?_⟩
          refine ⟨_, false, (fun σ ι w1 hg hd hon => by
              have hN := hN.ofGr ((Gr.refl _).drew.trans hg)
              have hB5 := hB5.gr ((Gr.refl _).drew.trans hg)
              have hB12 := hB12.gr ((Gr.refl _).drew.trans hg)
              have hB13 := hB13.gr ((Gr.refl _).drew.trans hg)
              have hB14 := hB14.gr ((Gr.refl _).drew.trans hg)
              have f2 := hd 2 (by decide) _ rfl
              have e2 : σ 2 = _ := f2.1 trivial
              exact OpOK.sub (r := [(132, _), (5, _), (7, _), (12, _), (13, _), (14, _)]) ⟨congrArg some e2, rfl, rfl, rfl, rfl, rfl, trivial⟩ (by
                exact OpOK.eq (r_load sc27 rfl (hB14.cell rfl)))
              ), (fun _ _ _ _ _ _ h => h), (FreeR.no _), ?_⟩
          refine ⟨_, false, (fun σ ι w1 hg hd hon => by
              have f1 := hd 1 (by decide) _ rfl
              have f3 := hd 3 (by decide) _ rfl
              have e1 : σ 1 = _ := f1.1 trivial
              have e3 : σ 3 = _ := f3.1 trivial
              exact OpOK.sub (r := [(131, _), (133, _), (5, _), (7, _), (12, _), (13, _), (14, _)]) ⟨congrArg some e1, congrArg some e3, rfl, rfl, rfl, rfl, rfl, trivial⟩ (by
                exact OpOK.eq (r_eql rfl rfl))
              ), (fun _ _ _ _ _ _ h => h), (FreeR.no _), ?_⟩
          refine ⟨_, false, (fun σ ι w1 hg hd hon => by
              have f4 := hd 4 (by decide) _ rfl
              have e4 : σ 4 = _ := f4.1 trivial
              exact OpOK.sub (r := [(134, _), (5, _), (7, _), (12, _), (13, _), (14, _)]) ⟨congrArg some e4, rfl, rfl, rfl, rfl, rfl, trivial⟩ (by
                exact OpOK.eq (r_move rfl))
              ), (fun _ _ _ _ _ _ h => h), (FreeR.no _), ?_⟩
          refine ⟨_, false, (fun σ ι w1 hg hd hon => by
              have f5 := hd 5 (by decide) _ rfl
              have e5 : σ 5 = _ := f5.1 trivial
              have hgd : σ 5 = .bool true := hon
              have hgb := (f5.1 trivial : σ 5 = _).symm.trans hgd
              simp only [Value.bool.injEq] at hgb
              try simp only [decide_eq_true_eq, decide_eq_false_iff_not, Bool.or_eq_true, Bool.and_eq_true, Bool.or_eq_false_iff, Bool.and_eq_false_iff, Bool.not_eq_true', Bool.not_eq_false', Int.not_lt, Int.not_le, ne_eq, Decidable.not_not] at hgb
              exact OpOK.sub (r := [(5, _), (7, _), (12, _), (13, _), (14, _)]) ⟨rfl, rfl, rfl, rfl, rfl, trivial⟩ (by
                exact OpOK.eq (r_fld fld29_0 rfl))
              ), (fun _ _ _ _ _ _ h => h), (FreeR.no _), ?_⟩
          refine ⟨_, false, (fun σ ι w1 hg hd hon => by
              have hN := hN.ofGr ((Gr.refl _).drew.trans hg)
              have hB5 := hB5.gr ((Gr.refl _).drew.trans hg)
              have hB12 := hB12.gr ((Gr.refl _).drew.trans hg)
              have hB13 := hB13.gr ((Gr.refl _).drew.trans hg)
              have hB14 := hB14.gr ((Gr.refl _).drew.trans hg)
              have f6 := hd 6 (by decide) _ rfl
              have f5 := hd 5 (by decide) _ rfl
              have e6 : σ 6 = _ := f6.1 hon
              have e5 : σ 5 = _ := f5.1 trivial
              have hgd : σ 5 = .bool true := hon
              have hgb := (f5.1 trivial : σ 5 = _).symm.trans hgd
              simp only [Value.bool.injEq] at hgb
              try simp only [decide_eq_true_eq, decide_eq_false_iff_not, Bool.or_eq_true, Bool.and_eq_true, Bool.or_eq_false_iff, Bool.and_eq_false_iff, Bool.not_eq_true', Bool.not_eq_false', Int.not_lt, Int.not_le, ne_eq, Decidable.not_not] at hgb
              exact OpOK.sub (r := [(136, _), (5, _), (7, _), (12, _), (13, _), (14, _)]) ⟨congrArg some e6, rfl, rfl, rfl, rfl, rfl, trivial⟩ (by
                exact OpOK.eq (r_load sc22 rfl (hB13.cell rfl)))
              ), (fun _ _ _ _ _ _ h => h), (FreeR.no _), ?_⟩
          refine ⟨_, false, (fun σ ι w1 hg hd hon => by
              have f5 := hd 5 (by decide) _ rfl
              have e5 : σ 5 = _ := f5.1 trivial
              have hgd : σ 5 = .bool true := hon
              have hgb := (f5.1 trivial : σ 5 = _).symm.trans hgd
              simp only [Value.bool.injEq] at hgb
              try simp only [decide_eq_true_eq, decide_eq_false_iff_not, Bool.or_eq_true, Bool.and_eq_true, Bool.or_eq_false_iff, Bool.and_eq_false_iff, Bool.not_eq_true', Bool.not_eq_false', Int.not_lt, Int.not_le, ne_eq, Decidable.not_not] at hgb
              exact OpOK.sub (r := [(5, _), (7, _), (12, _), (13, _), (14, _)]) ⟨rfl, rfl, rfl, rfl, rfl, trivial⟩ (by
                exact OpOK.eq (r_fld fld29_0 rfl))
              ), (fun _ _ _ _ _ _ h => h), (FreeR.no _), ?_⟩
          refine ⟨_, false, (fun σ ι w1 hg hd hon => by
              have hN := hN.ofGr ((Gr.refl _).drew.trans hg)
              have hB5 := hB5.gr ((Gr.refl _).drew.trans hg)
              have hB12 := hB12.gr ((Gr.refl _).drew.trans hg)
              have hB13 := hB13.gr ((Gr.refl _).drew.trans hg)
              have hB14 := hB14.gr ((Gr.refl _).drew.trans hg)
              have f8 := hd 8 (by decide) _ rfl
              have f5 := hd 5 (by decide) _ rfl
              have e8 : σ 8 = _ := f8.1 hon
              have e5 : σ 5 = _ := f5.1 trivial
              have hgd : σ 5 = .bool true := hon
              have hgb := (f5.1 trivial : σ 5 = _).symm.trans hgd
              simp only [Value.bool.injEq] at hgb
              try simp only [decide_eq_true_eq, decide_eq_false_iff_not, Bool.or_eq_true, Bool.and_eq_true, Bool.or_eq_false_iff, Bool.and_eq_false_iff, Bool.not_eq_true', Bool.not_eq_false', Int.not_lt, Int.not_le, ne_eq, Decidable.not_not] at hgb
              exact OpOK.sub (r := [(138, _), (5, _), (7, _), (12, _), (13, _), (14, _)]) ⟨congrArg some e8, rfl, rfl, rfl, rfl, rfl, trivial⟩ (by
                exact OpOK.eq (r_load sc22 rfl (hB14.cell rfl)))
              ), (fun _ _ _ _ _ _ h => h), (FreeR.no _), ?_⟩
          refine ⟨_, true, (fun σ ι w1 hg hd hon => by
              have hN := hN.ofGr ((Gr.refl _).drew.trans hg)
              have hB5 := hB5.gr ((Gr.refl _).drew.trans hg)
              have hB12 := hB12.gr ((Gr.refl _).drew.trans hg)
              have hB13 := hB13.gr ((Gr.refl _).drew.trans hg)
              have hB14 := hB14.gr ((Gr.refl _).drew.trans hg)
              have f7 := hd 7 (by decide) _ rfl
              have f9 := hd 9 (by decide) _ rfl
              have f5 := hd 5 (by decide) _ rfl
              have e7 : σ 7 = _ := f7.1 hon
              have e9 : σ 9 = _ := f9.1 hon
              have e5 : σ 5 = _ := f5.1 trivial
              have hgd : σ 5 = .bool true := hon
              have hgb := (f5.1 trivial : σ 5 = _).symm.trans hgd
              simp only [Value.bool.injEq] at hgb
              try simp only [decide_eq_true_eq, decide_eq_false_iff_not, Bool.or_eq_true, Bool.and_eq_true, Bool.or_eq_false_iff, Bool.and_eq_false_iff, Bool.not_eq_true', Bool.not_eq_false', Int.not_lt, Int.not_le, ne_eq, Decidable.not_not] at hgb
              skip
              exact CallOK.sub (r := [(137, _), (139, _), (5, _), (7, _), (12, _), (13, _), (14, _)]) ⟨congrArg some e7, congrArg some e9, rfl, rfl, rfl, rfl, rfl, trivial⟩ (by
                exact CallOK.V (enters_of rfl rfl hb14) (br_same hN.sat hE4 hE5 rfl rfl))
              ), (fun _ _ _ _ _ _ h => h), (fun _ _ _ _ _ _ h => h), ?_⟩
          refine ⟨_, false, (fun σ ι w1 hg hd hon => by
              have f5 := hd 5 (by decide) _ rfl
              have f10 := hd 10 (by decide) _ rfl
              have e5 : σ 5 = _ := f5.1 trivial
              have ec : σ 5 = _ := f5.1 trivial
              exact OpOK.id (by refine OpOK.and (dc := 135) (dy := 140) (kc := σ 5) (ky := σ 10) ?_ ?_ ec (fun hb => f10.1 (by show σ 5 = _; rw [ec]; exact congrArg Value.bool hb)) <;> rfl)
              ), (fun _ _ _ _ _ _ h => h), (FreeR.no _), ?_⟩
          refine ⟨_, false, (fun σ ι w1 hg hd hon => by
              have f11 := hd 11 (by decide) _ rfl
              have e11 : σ 11 = _ := f11.1 trivial
              exact OpOK.sub (r := [(141, _), (5, _), (7, _), (12, _), (13, _), (14, _)]) ⟨congrArg some e11, rfl, rfl, rfl, rfl, rfl, trivial⟩ (by
                exact OpOK.eq (r_move rfl))
              ), (fun _ _ _ _ _ _ h => h), (FreeR.no _), ?_⟩
          refine ⟨_, false, (fun σ ι w1 hg hd hon => by
              have f12 := hd 12 (by decide) _ rfl
              have e12 : σ 12 = _ := f12.1 trivial
              have hgd : σ 12 = .bool true := hon
              have hgb := (f12.1 trivial : σ 12 = _).symm.trans hgd
              simp only [Value.bool.injEq] at hgb
              try simp only [decide_eq_true_eq, decide_eq_false_iff_not, Bool.or_eq_true, Bool.and_eq_true, Bool.or_eq_false_iff, Bool.and_eq_false_iff, Bool.not_eq_true', Bool.not_eq_false', Int.not_lt, Int.not_le, ne_eq, Decidable.not_not] at hgb
              exact OpOK.sub (r := [(5, _), (7, _), (12, _), (13, _), (14, _)]) ⟨rfl, rfl, rfl, rfl, rfl, trivial⟩ (by
                exact OpOK.eq (r_fld fld50_0 rfl))
              ), (fun _ _ _ _ _ _ h => h), (FreeR.no _), ?_⟩
          refine ⟨_, false, (fun σ ι w1 hg hd hon => by
              have hN := hN.ofGr ((Gr.refl _).drew.trans hg)
              have hB5 := hB5.gr ((Gr.refl _).drew.trans hg)
              have hB12 := hB12.gr ((Gr.refl _).drew.trans hg)
              have hB13 := hB13.gr ((Gr.refl _).drew.trans hg)
              have hB14 := hB14.gr ((Gr.refl _).drew.trans hg)
              have f13 := hd 13 (by decide) _ rfl
              have f12 := hd 12 (by decide) _ rfl
              have e13 : σ 13 = _ := f13.1 hon
              have e12 : σ 12 = _ := f12.1 trivial
              have hgd : σ 12 = .bool true := hon
              have hgb := (f12.1 trivial : σ 12 = _).symm.trans hgd
              simp only [Value.bool.injEq] at hgb
              try simp only [decide_eq_true_eq, decide_eq_false_iff_not, Bool.or_eq_true, Bool.and_eq_true, Bool.or_eq_false_iff, Bool.and_eq_false_iff, Bool.not_eq_true', Bool.not_eq_false', Int.not_lt, Int.not_le, ne_eq, Decidable.not_not] at hgb
              exact OpOK.sub (r := [(143, _), (5, _), (7, _), (12, _), (13, _), (14, _)]) ⟨congrArg some e13, rfl, rfl, rfl, rfl, rfl, trivial⟩ (by
                exact OpOK.eq (r_load sc33 rfl (hB5.cell rfl)))
              ), (fun _ _ _ _ _ _ h => h), (FreeR.no _), ?_⟩
          refine ⟨_, false, (fun σ ι w1 hg hd hon => by
              have f12 := hd 12 (by decide) _ rfl
              have e12 : σ 12 = _ := f12.1 trivial
              have hgd : σ 12 = .bool true := hon
              have hgb := (f12.1 trivial : σ 12 = _).symm.trans hgd
              simp only [Value.bool.injEq] at hgb
              try simp only [decide_eq_true_eq, decide_eq_false_iff_not, Bool.or_eq_true, Bool.and_eq_true, Bool.or_eq_false_iff, Bool.and_eq_false_iff, Bool.not_eq_true', Bool.not_eq_false', Int.not_lt, Int.not_le, ne_eq, Decidable.not_not] at hgb
              exact OpOK.sub (r := [(5, _), (7, _), (12, _), (13, _), (14, _)]) ⟨rfl, rfl, rfl, rfl, rfl, trivial⟩ (by
                exact OpOK.eq (r_fld fld50_2 rfl))
              ), (fun _ _ _ _ _ _ h => h), (FreeR.no _), ?_⟩
          refine ⟨_, false, (fun σ ι w1 hg hd hon => by
              have hN := hN.ofGr ((Gr.refl _).drew.trans hg)
              have hB5 := hB5.gr ((Gr.refl _).drew.trans hg)
              have hB12 := hB12.gr ((Gr.refl _).drew.trans hg)
              have hB13 := hB13.gr ((Gr.refl _).drew.trans hg)
              have hB14 := hB14.gr ((Gr.refl _).drew.trans hg)
              have f15 := hd 15 (by decide) _ rfl
              have f12 := hd 12 (by decide) _ rfl
              have e15 : σ 15 = _ := f15.1 hon
              have e12 : σ 12 = _ := f12.1 trivial
              have hgd : σ 12 = .bool true := hon
              have hgb := (f12.1 trivial : σ 12 = _).symm.trans hgd
              simp only [Value.bool.injEq] at hgb
              try simp only [decide_eq_true_eq, decide_eq_false_iff_not, Bool.or_eq_true, Bool.and_eq_true, Bool.or_eq_false_iff, Bool.and_eq_false_iff, Bool.not_eq_true', Bool.not_eq_false', Int.not_lt, Int.not_le, ne_eq, Decidable.not_not] at hgb
              exact OpOK.sub (r := [(145, _), (5, _), (7, _), (12, _), (13, _), (14, _)]) ⟨congrArg some e15, rfl, rfl, rfl, rfl, rfl, trivial⟩ (by
                exact OpOK.eq (Box.loadO ag36 rfl hB5 (by simp)))
              ), (fun _ _ _ _ _ _ h => h), (FreeR.no _), ?_⟩
          refine ⟨_, false, (fun σ ι w1 hg hd hon => by
              have f12 := hd 12 (by decide) _ rfl
              have e12 : σ 12 = _ := f12.1 trivial
              have hgd : σ 12 = .bool true := hon
              have hgb := (f12.1 trivial : σ 12 = _).symm.trans hgd
              simp only [Value.bool.injEq] at hgb
              try simp only [decide_eq_true_eq, decide_eq_false_iff_not, Bool.or_eq_true, Bool.and_eq_true, Bool.or_eq_false_iff, Bool.and_eq_false_iff, Bool.not_eq_true', Bool.not_eq_false', Int.not_lt, Int.not_le, ne_eq, Decidable.not_not] at hgb
              exact OpOK.sub (r := [(5, _), (7, _), (12, _), (13, _), (14, _)]) ⟨rfl, rfl, rfl, rfl, rfl, trivial⟩ (by
                exact OpOK.eq (r_fld fld50_3 rfl))
              ), (fun _ _ _ _ _ _ h => h), (FreeR.no _), ?_⟩
          refine ⟨_, false, (fun σ ι w1 hg hd hon => by
              have hN := hN.ofGr ((Gr.refl _).drew.trans hg)
              have hB5 := hB5.gr ((Gr.refl _).drew.trans hg)
              have hB12 := hB12.gr ((Gr.refl _).drew.trans hg)
              have hB13 := hB13.gr ((Gr.refl _).drew.trans hg)
              have hB14 := hB14.gr ((Gr.refl _).drew.trans hg)
              have f17 := hd 17 (by decide) _ rfl
              have f12 := hd 12 (by decide) _ rfl
              have e17 : σ 17 = _ := f17.1 hon
              have e12 : σ 12 = _ := f12.1 trivial
              have hgd : σ 12 = .bool true := hon
              have hgb := (f12.1 trivial : σ 12 = _).symm.trans hgd
              simp only [Value.bool.injEq] at hgb
              try simp only [decide_eq_true_eq, decide_eq_false_iff_not, Bool.or_eq_true, Bool.and_eq_true, Bool.or_eq_false_iff, Bool.and_eq_false_iff, Bool.not_eq_true', Bool.not_eq_false', Int.not_lt, Int.not_le, ne_eq, Decidable.not_not] at hgb
              exact OpOK.sub (r := [(147, _), (5, _), (7, _), (12, _), (13, _), (14, _)]) ⟨congrArg some e17, rfl, rfl, rfl, rfl, rfl, trivial⟩ (by
                exact OpOK.eq (Box.loadO ag38 rfl hB5 (by simp)))
              ), (fun _ _ _ _ _ _ h => h), (FreeR.no _), ?_⟩
          refine ⟨_, true, (fun σ ι w1 hg hd hon => by
              have hN := hN.ofGr ((Gr.refl _).drew.trans hg)
              have hB5 := hB5.gr ((Gr.refl _).drew.trans hg)
              have hB12 := hB12.gr ((Gr.refl _).drew.trans hg)
              have hB13 := hB13.gr ((Gr.refl _).drew.trans hg)
              have hB14 := hB14.gr ((Gr.refl _).drew.trans hg)
              have f14 := hd 14 (by decide) _ rfl
              have f16 := hd 16 (by decide) _ rfl
              have f18 := hd 18 (by decide) _ rfl
              have f12 := hd 12 (by decide) _ rfl
              have e14 : σ 14 = _ := f14.1 hon
              have e16 : σ 16 = _ := f16.1 hon
              have e18 : σ 18 = _ := f18.1 hon
              have e12 : σ 12 = _ := f12.1 trivial
              have hgd : σ 12 = .bool true := hon
              have hgb := (f12.1 trivial : σ 12 = _).symm.trans hgd
              simp only [Value.bool.injEq] at hgb
              try simp only [decide_eq_true_eq, decide_eq_false_iff_not, Bool.or_eq_true, Bool.and_eq_true, Bool.or_eq_false_iff, Bool.and_eq_false_iff, Bool.not_eq_true', Bool.not_eq_false', Int.not_lt, Int.not_le, ne_eq, Decidable.not_not] at hgb
              skip
              exact CallOK.sub (r := [(144, _), (146, _), (148, _), (5, _), (7, _), (12, _), (13, _), (14, _)]) ⟨congrArg some e14, congrArg some e16, congrArg some e18, rfl, rfl, rfl, rfl, rfl, trivial⟩ (by
                exact CallOK.V (enters_of rfl rfl hb12) (br_check hN.sat hP hpc))
              ), (fun _ _ _ _ _ _ h => h), (fun _ _ _ _ _ _ h => h), ?_⟩
          refine ⟨_, false, (fun σ ι w1 hg hd hon => by
              have f12 := hd 12 (by decide) _ rfl
              have e12 : σ 12 = _ := f12.1 trivial
              have hgd : σ 12 = .bool true := hon
              have hgb := (f12.1 trivial : σ 12 = _).symm.trans hgd
              simp only [Value.bool.injEq] at hgb
              try simp only [decide_eq_true_eq, decide_eq_false_iff_not, Bool.or_eq_true, Bool.and_eq_true, Bool.or_eq_false_iff, Bool.and_eq_false_iff, Bool.not_eq_true', Bool.not_eq_false', Int.not_lt, Int.not_le, ne_eq, Decidable.not_not] at hgb
              exact OpOK.sub (r := [(5, _), (7, _), (12, _), (13, _), (14, _)]) ⟨rfl, rfl, rfl, rfl, rfl, trivial⟩ (by
                exact OpOK.eq (r_fld fld50_0 rfl))
              ), (fun _ _ _ _ _ _ h => h), (FreeR.no _), ?_⟩
          refine ⟨_, false, (fun σ ι w1 hg hd hon => by
              have hN := hN.ofGr ((Gr.refl _).drew.trans hg)
              have hB5 := hB5.gr ((Gr.refl _).drew.trans hg)
              have hB12 := hB12.gr ((Gr.refl _).drew.trans hg)
              have hB13 := hB13.gr ((Gr.refl _).drew.trans hg)
              have hB14 := hB14.gr ((Gr.refl _).drew.trans hg)
              have f20 := hd 20 (by decide) _ rfl
              have f12 := hd 12 (by decide) _ rfl
              have e20 : σ 20 = _ := f20.1 hon
              have e12 : σ 12 = _ := f12.1 trivial
              have hgd : σ 12 = .bool true := hon
              have hgb := (f12.1 trivial : σ 12 = _).symm.trans hgd
              simp only [Value.bool.injEq] at hgb
              try simp only [decide_eq_true_eq, decide_eq_false_iff_not, Bool.or_eq_true, Bool.and_eq_true, Bool.or_eq_false_iff, Bool.and_eq_false_iff, Bool.not_eq_true', Bool.not_eq_false', Int.not_lt, Int.not_le, ne_eq, Decidable.not_not] at hgb
              exact OpOK.sub (r := [(150, _), (5, _), (7, _), (12, _), (13, _), (14, _)]) ⟨congrArg some e20, rfl, rfl, rfl, rfl, rfl, trivial⟩ (by
                exact OpOK.eq (r_load sc33 rfl (hB5.cell rfl)))
              ), (fun _ _ _ _ _ _ h => h), (FreeR.no _), ?_⟩
          refine ⟨_, false, (fun σ ι w1 hg hd hon => by
              have f12 := hd 12 (by decide) _ rfl
              have e12 : σ 12 = _ := f12.1 trivial
              have hgd : σ 12 = .bool true := hon
              have hgb := (f12.1 trivial : σ 12 = _).symm.trans hgd
              simp only [Value.bool.injEq] at hgb
              try simp only [decide_eq_true_eq, decide_eq_false_iff_not, Bool.or_eq_true, Bool.and_eq_true, Bool.or_eq_false_iff, Bool.and_eq_false_iff, Bool.not_eq_true', Bool.not_eq_false', Int.not_lt, Int.not_le, ne_eq, Decidable.not_not] at hgb
              exact OpOK.sub (r := [(5, _), (7, _), (12, _), (13, _), (14, _)]) ⟨rfl, rfl, rfl, rfl, rfl, trivial⟩ (by
                exact OpOK.eq (r_fld fld50_2 rfl))
              ), (fun _ _ _ _ _ _ h => h), (FreeR.no _), ?_⟩
          refine ⟨_, false, (fun σ ι w1 hg hd hon => by
              have hN := hN.ofGr ((Gr.refl _).drew.trans hg)
              have hB5 := hB5.gr ((Gr.refl _).drew.trans hg)
              have hB12 := hB12.gr ((Gr.refl _).drew.trans hg)
              have hB13 := hB13.gr ((Gr.refl _).drew.trans hg)
              have hB14 := hB14.gr ((Gr.refl _).drew.trans hg)
              have f22 := hd 22 (by decide) _ rfl
              have f12 := hd 12 (by decide) _ rfl
              have e22 : σ 22 = _ := f22.1 hon
              have e12 : σ 12 = _ := f12.1 trivial
              have hgd : σ 12 = .bool true := hon
              have hgb := (f12.1 trivial : σ 12 = _).symm.trans hgd
              simp only [Value.bool.injEq] at hgb
              try simp only [decide_eq_true_eq, decide_eq_false_iff_not, Bool.or_eq_true, Bool.and_eq_true, Bool.or_eq_false_iff, Bool.and_eq_false_iff, Bool.not_eq_true', Bool.not_eq_false', Int.not_lt, Int.not_le, ne_eq, Decidable.not_not] at hgb
              exact OpOK.sub (r := [(152, _), (5, _), (7, _), (12, _), (13, _), (14, _)]) ⟨congrArg some e22, rfl, rfl, rfl, rfl, rfl, trivial⟩ (by
                exact OpOK.eq (Box.loadO ag36 rfl hB5 (by simp)))
              ), (fun _ _ _ _ _ _ h => h), (FreeR.no _), ?_⟩
          refine ⟨_, false, (fun σ ι w1 hg hd hon => by
              have f12 := hd 12 (by decide) _ rfl
              have e12 : σ 12 = _ := f12.1 trivial
              have hgd : σ 12 = .bool true := hon
              have hgb := (f12.1 trivial : σ 12 = _).symm.trans hgd
              simp only [Value.bool.injEq] at hgb
              try simp only [decide_eq_true_eq, decide_eq_false_iff_not, Bool.or_eq_true, Bool.and_eq_true, Bool.or_eq_false_iff, Bool.and_eq_false_iff, Bool.not_eq_true', Bool.not_eq_false', Int.not_lt, Int.not_le, ne_eq, Decidable.not_not] at hgb
              exact OpOK.sub (r := [(5, _), (7, _), (12, _), (13, _), (14, _)]) ⟨rfl, rfl, rfl, rfl, rfl, trivial⟩ (by
                exact OpOK.eq (r_fld fld50_3 rfl))
              ), (fun _ _ _ _ _ _ h => h), (FreeR.no _), ?_⟩
          refine ⟨_, false, (fun σ ι w1 hg hd hon => by
              have hN := hN.ofGr ((Gr.refl _).drew.trans hg)
              have hB5 := hB5.gr ((Gr.refl _).drew.trans hg)
              have hB12 := hB12.gr ((Gr.refl _).drew.trans hg)
              have hB13 := hB13.gr ((Gr.refl _).drew.trans hg)
              have hB14 := hB14.gr ((Gr.refl _).drew.trans hg)
              have f24 := hd 24 (by decide) _ rfl
              have f12 := hd 12 (by decide) _ rfl
              have e24 : σ 24 = _ := f24.1 hon
              have e12 : σ 12 = _ := f12.1 trivial
              have hgd : σ 12 = .bool true := hon
              have hgb := (f12.1 trivial : σ 12 = _).symm.trans hgd
              simp only [Value.bool.injEq] at hgb
              try simp only [decide_eq_true_eq, decide_eq_false_iff_not, Bool.or_eq_true, Bool.and_eq_true, Bool.or_eq_false_iff, Bool.and_eq_false_iff, Bool.not_eq_true', Bool.not_eq_false', Int.not_lt, Int.not_le, ne_eq, Decidable.not_not] at hgb
              exact OpOK.sub (r := [(154, _), (5, _), (7, _), (12, _), (13, _), (14, _)]) ⟨congrArg some e24, rfl, rfl, rfl, rfl, rfl, trivial⟩ (by
                exact OpOK.eq (Box.loadO ag38 rfl hB5 (by simp)))
              ), (fun _ _ _ _ _ _ h => h), (FreeR.no _), ?_⟩
          refine ⟨_, true, (fun σ ι w1 hg hd hon => by
              have hN := hN.ofGr ((Gr.refl _).drew.trans hg)
              have hB5 := hB5.gr ((Gr.refl _).drew.trans hg)
              have hB12 := hB12.gr ((Gr.refl _).drew.trans hg)
              have hB13 := hB13.gr ((Gr.refl _).drew.trans hg)
              have hB14 := hB14.gr ((Gr.refl _).drew.trans hg)
              have f21 := hd 21 (by decide) _ rfl
              have f23 := hd 23 (by decide) _ rfl
              have f25 := hd 25 (by decide) _ rfl
              have f12 := hd 12 (by decide) _ rfl
              have e21 : σ 21 = _ := f21.1 hon
              have e23 : σ 23 = _ := f23.1 hon
              have e25 : σ 25 = _ := f25.1 hon
              have e12 : σ 12 = _ := f12.1 trivial
              have hgd : σ 12 = .bool true := hon
              have hgb := (f12.1 trivial : σ 12 = _).symm.trans hgd
              simp only [Value.bool.injEq] at hgb
              try simp only [decide_eq_true_eq, decide_eq_false_iff_not, Bool.or_eq_true, Bool.and_eq_true, Bool.or_eq_false_iff, Bool.and_eq_false_iff, Bool.not_eq_true', Bool.not_eq_false', Int.not_lt, Int.not_le, ne_eq, Decidable.not_not] at hgb
              skip
              exact CallOK.sub (r := [(151, _), (153, _), (155, _), (5, _), (7, _), (12, _), (13, _), (14, _)]) ⟨congrArg some e21, congrArg some e23, congrArg some e25, rfl, rfl, rfl, rfl, rfl, trivial⟩ (by
                exact CallOK.V (enters_of rfl rfl hb27) (rcheck hN.sat hP hpc))
              ), (fun _ _ _ _ _ _ h => h), (fun _ _ _ _ _ _ h => h), ?_⟩
          refine ⟨_, false, (fun σ ι w1 hg hd hon => by
              have f19 := hd 19 (by decide) _ rfl
              have f26 := hd 26 (by decide) _ rfl
              have f12 := hd 12 (by decide) _ rfl
              have e19 : σ 19 = _ := f19.1 hon
              have e26 : σ 26 = _ := f26.1 hon
              have e12 : σ 12 = _ := f12.1 trivial
              have hgd : σ 12 = .bool true := hon
              have hgb := (f12.1 trivial : σ 12 = _).symm.trans hgd
              simp only [Value.bool.injEq] at hgb
              try simp only [decide_eq_true_eq, decide_eq_false_iff_not, Bool.or_eq_true, Bool.and_eq_true, Bool.or_eq_false_iff, Bool.and_eq_false_iff, Bool.not_eq_true', Bool.not_eq_false', Int.not_lt, Int.not_le, ne_eq, Decidable.not_not] at hgb
              exact OpOK.sub (r := [(149, _), (156, _), (5, _), (7, _), (12, _), (13, _), (14, _)]) ⟨congrArg some e19, congrArg some e26, rfl, rfl, rfl, rfl, rfl, trivial⟩ (by
                exact OpOK.eq (r_eql rfl rfl))
              ), (fun _ _ _ _ _ _ h => h), (FreeR.no _), ?_⟩
          refine ⟨_, false, (fun σ ι w1 hg hd hon => by
              have f12 := hd 12 (by decide) _ rfl
              have f27 := hd 27 (by decide) _ rfl
              have e12 : σ 12 = _ := f12.1 trivial
              have ec : σ 12 = _ := f12.1 trivial
              exact OpOK.id (by refine OpOK.and (dc := 142) (dy := 157) (kc := σ 12) (ky := σ 27) ?_ ?_ ec (fun hb => f27.1 (by show σ 12 = _; rw [ec]; exact congrArg Value.bool hb)) <;> rfl)
              ), (fun _ _ _ _ _ _ h => h), (FreeR.no _), ?_⟩
          refine ⟨_, false, (fun σ ι w1 hg hd hon => by
              have f28 := hd 28 (by decide) _ rfl
              have e28 : σ 28 = _ := f28.1 trivial
              exact OpOK.sub (r := [(158, _), (5, _), (7, _), (12, _), (13, _), (14, _)]) ⟨congrArg some e28, rfl, rfl, rfl, rfl, rfl, trivial⟩ (by
                exact OpOK.eq (r_move rfl))
              ), (fun _ _ _ _ _ _ h => h), (FreeR.no _), ?_⟩
          refine ⟨_, false, (fun σ ι w1 hg hd hon => by
              have f29 := hd 29 (by decide) _ rfl
              have e29 : σ 29 = _ := f29.1 trivial
              have hgd : σ 29 = .bool true := hon
              have hgb := (f29.1 trivial : σ 29 = _).symm.trans hgd
              simp only [Value.bool.injEq] at hgb
              try simp only [decide_eq_true_eq, decide_eq_false_iff_not, Bool.or_eq_true, Bool.and_eq_true, Bool.or_eq_false_iff, Bool.and_eq_false_iff, Bool.not_eq_true', Bool.not_eq_false', Int.not_lt, Int.not_le, ne_eq, Decidable.not_not] at hgb
              exact OpOK.sub (r := [(5, _), (7, _), (12, _), (13, _), (14, _)]) ⟨rfl, rfl, rfl, rfl, rfl, trivial⟩ (by
                exact OpOK.eq (r_fld fld50_0 rfl))
              ), (fun _ _ _ _ _ _ h => h), (FreeR.no _), ?_⟩
          refine ⟨_, false, (fun σ ι w1 hg hd hon => by
              have hN := hN.ofGr ((Gr.refl _).drew.trans hg)
              have hB5 := hB5.gr ((Gr.refl _).drew.trans hg)
              have hB12 := hB12.gr ((Gr.refl _).drew.trans hg)
              have hB13 := hB13.gr ((Gr.refl _).drew.trans hg)
              have hB14 := hB14.gr ((Gr.refl _).drew.trans hg)
              have f30 := hd 30 (by decide) _ rfl
              have f29 := hd 29 (by decide) _ rfl
              have e30 : σ 30 = _ := f30.1 hon
              have e29 : σ 29 = _ := f29.1 trivial
              have hgd : σ 29 = .bool true := hon
              have hgb := (f29.1 trivial : σ 29 = _).symm.trans hgd
              simp only [Value.bool.injEq] at hgb
              try simp only [decide_eq_true_eq, decide_eq_false_iff_not, Bool.or_eq_true, Bool.and_eq_true, Bool.or_eq_false_iff, Bool.and_eq_false_iff, Bool.not_eq_true', Bool.not_eq_false', Int.not_lt, Int.not_le, ne_eq, Decidable.not_not] at hgb
              exact OpOK.sub (r := [(160, _), (5, _), (7, _), (12, _), (13, _), (14, _)]) ⟨congrArg some e30, rfl, rfl, rfl, rfl, rfl, trivial⟩ (by
                exact OpOK.eq (r_load sc33 rfl (hB5.cell rfl)))
              ), (fun _ _ _ _ _ _ h => h), (FreeR.no _), ?_⟩
          refine ⟨_, false, (fun σ ι w1 hg hd hon => by
              have hN := hN.ofGr ((Gr.refl _).drew.trans hg)
              have hB5 := hB5.gr ((Gr.refl _).drew.trans hg)
              have hB12 := hB12.gr ((Gr.refl _).drew.trans hg)
              have hB13 := hB13.gr ((Gr.refl _).drew.trans hg)
              have hB14 := hB14.gr ((Gr.refl _).drew.trans hg)
              have f29 := hd 29 (by decide) _ rfl
              have e29 : σ 29 = _ := f29.1 trivial
              have hgd : σ 29 = .bool true := hon
              have hgb := (f29.1 trivial : σ 29 = _).symm.trans hgd
              simp only [Value.bool.injEq] at hgb
              try simp only [decide_eq_true_eq, decide_eq_false_iff_not, Bool.or_eq_true, Bool.and_eq_true, Bool.or_eq_false_iff, Bool.and_eq_false_iff, Bool.not_eq_true', Bool.not_eq_false', Int.not_lt, Int.not_le, ne_eq, Decidable.not_not] at hgb
              exact OpOK.sub (r := [(5, _), (7, _), (12, _), (13, _), (14, _)]) ⟨rfl, rfl, rfl, rfl, rfl, trivial⟩ (by
                exact OpOK.eq (r_loadA (cs := [_, _]) ag36 rfl hB12.agg))
              ), (fun _ _ _ _ _ _ h => h), (FreeR.no _), ?_⟩
          refine ⟨_, false, (fun σ ι w1 hg hd hon => by
              have f29 := hd 29 (by decide) _ rfl
              have e29 : σ 29 = _ := f29.1 trivial
              have hgd : σ 29 = .bool true := hon
              have hgb := (f29.1 trivial : σ 29 = _).symm.trans hgd
              simp only [Value.bool.injEq] at hgb
              try simp only [decide_eq_true_eq, decide_eq_false_iff_not, Bool.or_eq_true, Bool.and_eq_true, Bool.or_eq_false_iff, Bool.and_eq_false_iff, Bool.not_eq_true', Bool.not_eq_false', Int.not_lt, Int.not_le, ne_eq, Decidable.not_not] at hgb
              exact OpOK.sub (r := [(5, _), (7, _), (12, _), (13, _), (14, _)]) ⟨rfl, rfl, rfl, rfl, rfl, trivial⟩ (by
                exact OpOK.eq (r_fld fld50_3 rfl))
              ), (fun _ _ _ _ _ _ h => h), (FreeR.no _), ?_⟩
          refine ⟨_, false, (fun σ ι w1 hg hd hon => by
              have hN := hN.ofGr ((Gr.refl _).drew.trans hg)
              have hB5 := hB5.gr ((Gr.refl _).drew.trans hg)
              have hB12 := hB12.gr ((Gr.refl _).drew.trans hg)
              have hB13 := hB13.gr ((Gr.refl _).drew.trans hg)
              have hB14 := hB14.gr ((Gr.refl _).drew.trans hg)
              have f33 := hd 33 (by decide) _ rfl
              have f29 := hd 29 (by decide) _ rfl
              have e33 : σ 33 = _ := f33.1 hon
              have e29 : σ 29 = _ := f29.1 trivial
              have hgd : σ 29 = .bool true := hon
              have hgb := (f29.1 trivial : σ 29 = _).symm.trans hgd
              simp only [Value.bool.injEq] at hgb
              try simp only [decide_eq_true_eq, decide_eq_false_iff_not, Bool.or_eq_true, Bool.and_eq_true, Bool.or_eq_false_iff, Bool.and_eq_false_iff, Bool.not_eq_true', Bool.not_eq_false', Int.not_lt, Int.not_le, ne_eq, Decidable.not_not] at hgb
              exact OpOK.sub (r := [(163, _), (5, _), (7, _), (12, _), (13, _), (14, _)]) ⟨congrArg some e33, rfl, rfl, rfl, rfl, rfl, trivial⟩ (by
                exact OpOK.eq (Box.loadO ag38 rfl hB5 (by simp)))
              ), (fun _ _ _ _ _ _ h => h), (FreeR.no _), ?_⟩
          refine ⟨_, true, (fun σ ι w1 hg hd hon => by
              have hN := hN.ofGr ((Gr.refl _).drew.trans hg)
              have hB5 := hB5.gr ((Gr.refl _).drew.trans hg)
              have hB12 := hB12.gr ((Gr.refl _).drew.trans hg)
              have hB13 := hB13.gr ((Gr.refl _).drew.trans hg)
              have hB14 := hB14.gr ((Gr.refl _).drew.trans hg)
              have f31 := hd 31 (by decide) _ rfl
              have f32 := hd 32 (by decide) _ rfl
              have f34 := hd 34 (by decide) _ rfl
              have f29 := hd 29 (by decide) _ rfl
              have e31 : σ 31 = _ := f31.1 hon
              have e32 : σ 32 = _ := f32.1 hon
              have e34 : σ 34 = _ := f34.1 hon
              have e29 : σ 29 = _ := f29.1 trivial
              have hgd : σ 29 = .bool true := hon
              have hgb := (f29.1 trivial : σ 29 = _).symm.trans hgd
              simp only [Value.bool.injEq] at hgb
              try simp only [decide_eq_true_eq, decide_eq_false_iff_not, Bool.or_eq_true, Bool.and_eq_true, Bool.or_eq_false_iff, Bool.and_eq_false_iff, Bool.not_eq_true', Bool.not_eq_false', Int.not_lt, Int.not_le, ne_eq, Decidable.not_not] at hgb
              skip
              exact CallOK.sub (r := [(161, _), (162, _), (164, _), (5, _), (7, _), (12, _), (13, _), (14, _)]) ⟨congrArg some e31, congrArg some e32, congrArg some e34, rfl, rfl, rfl, rfl, rfl, trivial⟩ (by
                exact CallOK.V (enters_of rfl rfl hb12) (br_check (n := (d.length : Int)) hN.sat hP hpc))
              ), (fun _ _ _ _ _ _ h => h), (fun _ _ _ _ _ _ h => h), ?_⟩
          refine ⟨_, false, (fun σ ι w1 hg hd hon => by
              have f29 := hd 29 (by decide) _ rfl
              have e29 : σ 29 = _ := f29.1 trivial
              have hgd : σ 29 = .bool true := hon
              have hgb := (f29.1 trivial : σ 29 = _).symm.trans hgd
              simp only [Value.bool.injEq] at hgb
              try simp only [decide_eq_true_eq, decide_eq_false_iff_not, Bool.or_eq_true, Bool.and_eq_true, Bool.or_eq_false_iff, Bool.and_eq_false_iff, Bool.not_eq_true', Bool.not_eq_false', Int.not_lt, Int.not_le, ne_eq, Decidable.not_not] at hgb
              exact OpOK.sub (r := [(5, _), (7, _), (12, _), (13, _), (14, _)]) ⟨rfl, rfl, rfl, rfl, rfl, trivial⟩ (by
                exact OpOK.eq (r_fld fld50_0 rfl))
              ), (fun _ _ _ _ _ _ h => h), (FreeR.no _), ?_⟩
          refine ⟨_, false, (fun σ ι w1 hg hd hon => by
              have hN := hN.ofGr ((Gr.refl _).drew.trans hg)
              have hB5 := hB5.gr ((Gr.refl _).drew.trans hg)
              have hB12 := hB12.gr ((Gr.refl _).drew.trans hg)
              have hB13 := hB13.gr ((Gr.refl _).drew.trans hg)
              have hB14 := hB14.gr ((Gr.refl _).drew.trans hg)
              have f36 := hd 36 (by decide) _ rfl
              have f29 := hd 29 (by decide) _ rfl
              have e36 : σ 36 = _ := f36.1 hon
              have e29 : σ 29 = _ := f29.1 trivial
              have hgd : σ 29 = .bool true := hon
              have hgb := (f29.1 trivial : σ 29 = _).symm.trans hgd
              simp only [Value.bool.injEq] at hgb
              try simp only [decide_eq_true_eq, decide_eq_false_iff_not, Bool.or_eq_true, Bool.and_eq_true, Bool.or_eq_false_iff, Bool.and_eq_false_iff, Bool.not_eq_true', Bool.not_eq_false', Int.not_lt, Int.not_le, ne_eq, Decidable.not_not] at hgb
              exact OpOK.sub (r := [(166, _), (5, _), (7, _), (12, _), (13, _), (14, _)]) ⟨congrArg some e36, rfl, rfl, rfl, rfl, rfl, trivial⟩ (by
                exact OpOK.eq (r_load sc33 rfl (hB5.cell rfl)))
              ), (fun _ _ _ _ _ _ h => h), (FreeR.no _), ?_⟩
          refine ⟨_, false, (fun σ ι w1 hg hd hon => by
              have hN := hN.ofGr ((Gr.refl _).drew.trans hg)
              have hB5 := hB5.gr ((Gr.refl _).drew.trans hg)
              have hB12 := hB12.gr ((Gr.refl _).drew.trans hg)
              have hB13 := hB13.gr ((Gr.refl _).drew.trans hg)
              have hB14 := hB14.gr ((Gr.refl _).drew.trans hg)
              have f29 := hd 29 (by decide) _ rfl
              have e29 : σ 29 = _ := f29.1 trivial
              have hgd : σ 29 = .bool true := hon
              have hgb := (f29.1 trivial : σ 29 = _).symm.trans hgd
              simp only [Value.bool.injEq] at hgb
              try simp only [decide_eq_true_eq, decide_eq_false_iff_not, Bool.or_eq_true, Bool.and_eq_true, Bool.or_eq_false_iff, Bool.and_eq_false_iff, Bool.not_eq_true', Bool.not_eq_false', Int.not_lt, Int.not_le, ne_eq, Decidable.not_not] at hgb
              exact OpOK.sub (r := [(5, _), (7, _), (12, _), (13, _), (14, _)]) ⟨rfl, rfl, rfl, rfl, rfl, trivial⟩ (by
                exact OpOK.eq (r_loadA (cs := [_, _]) ag36 rfl hB12.agg))
              ), (fun _ _ _ _ _ _ h => h), (FreeR.no _), ?_⟩
          refine ⟨_, false, (fun σ ι w1 hg hd hon => by
              have f29 := hd 29 (by decide) _ rfl
              have e29 : σ 29 = _ := f29.1 trivial
              have hgd : σ 29 = .bool true := hon
              have hgb := (f29.1 trivial : σ 29 = _).symm.trans hgd
              simp only [Value.bool.injEq] at hgb
              try simp only [decide_eq_true_eq, decide_eq_false_iff_not, Bool.or_eq_true, Bool.and_eq_true, Bool.or_eq_false_iff, Bool.and_eq_false_iff, Bool.not_eq_true', Bool.not_eq_false', Int.not_lt, Int.not_le, ne_eq, Decidable.not_not] at hgb
              exact OpOK.sub (r := [(5, _), (7, _), (12, _), (13, _), (14, _)]) ⟨rfl, rfl, rfl, rfl, rfl, trivial⟩ (by
                exact OpOK.eq (r_fld fld50_3 rfl))
              ), (fun _ _ _ _ _ _ h => h), (FreeR.no _), ?_⟩
          refine ⟨_, false, (fun σ ι w1 hg hd hon => by
              have hN := hN.ofGr ((Gr.refl _).drew.trans hg)
              have hB5 := hB5.gr ((Gr.refl _).drew.trans hg)
              have hB12 := hB12.gr ((Gr.refl _).drew.trans hg)
              have hB13 := hB13.gr ((Gr.refl _).drew.trans hg)
              have hB14 := hB14.gr ((Gr.refl _).drew.trans hg)
              have f39 := hd 39 (by decide) _ rfl
              have f29 := hd 29 (by decide) _ rfl
              have e39 : σ 39 = _ := f39.1 hon
              have e29 : σ 29 = _ := f29.1 trivial
              have hgd : σ 29 = .bool true := hon
              have hgb := (f29.1 trivial : σ 29 = _).symm.trans hgd
              simp only [Value.bool.injEq] at hgb
              try simp only [decide_eq_true_eq, decide_eq_false_iff_not, Bool.or_eq_true, Bool.and_eq_true, Bool.or_eq_false_iff, Bool.and_eq_false_iff, Bool.not_eq_true', Bool.not_eq_false', Int.not_lt, Int.not_le, ne_eq, Decidable.not_not] at hgb
              exact OpOK.sub (r := [(169, _), (5, _), (7, _), (12, _), (13, _), (14, _)]) ⟨congrArg some e39, rfl, rfl, rfl, rfl, rfl, trivial⟩ (by
                exact OpOK.eq (Box.loadO ag38 rfl hB5 (by simp)))
              ), (fun _ _ _ _ _ _ h => h), (FreeR.no _), ?_⟩
          refine ⟨_, true, (fun σ ι w1 hg hd hon => by
              have hN := hN.ofGr ((Gr.refl _).drew.trans hg)
              have hB5 := hB5.gr ((Gr.refl _).drew.trans hg)
              have hB12 := hB12.gr ((Gr.refl _).drew.trans hg)
              have hB13 := hB13.gr ((Gr.refl _).drew.trans hg)
              have hB14 := hB14.gr ((Gr.refl _).drew.trans hg)
              have f37 := hd 37 (by decide) _ rfl
              have f38 := hd 38 (by decide) _ rfl
              have f40 := hd 40 (by decide) _ rfl
              have f29 := hd 29 (by decide) _ rfl
              have e37 : σ 37 = _ := f37.1 hon
              have e38 : σ 38 = _ := f38.1 hon
              have e40 : σ 40 = _ := f40.1 hon
              have e29 : σ 29 = _ := f29.1 trivial
              have hgd : σ 29 = .bool true := hon
              have hgb := (f29.1 trivial : σ 29 = _).symm.trans hgd
              simp only [Value.bool.injEq] at hgb
              try simp only [decide_eq_true_eq, decide_eq_false_iff_not, Bool.or_eq_true, Bool.and_eq_true, Bool.or_eq_false_iff, Bool.and_eq_false_iff, Bool.not_eq_true', Bool.not_eq_false', Int.not_lt, Int.not_le, ne_eq, Decidable.not_not] at hgb
              skip
              exact CallOK.sub (r := [(167, _), (168, _), (170, _), (5, _), (7, _), (12, _), (13, _), (14, _)]) ⟨congrArg some e37, congrArg some e38, congrArg some e40, rfl, rfl, rfl, rfl, rfl, trivial⟩ (by
                exact CallOK.V (enters_of rfl rfl hb27) (rcheck (n := (d.length : Int)) hN.sat hP hpc))
              ), (fun _ _ _ _ _ _ h => h), (fun _ _ _ _ _ _ h => h), ?_⟩
          refine ⟨_, false, (fun σ ι w1 hg hd hon => by
              have f35 := hd 35 (by decide) _ rfl
              have f41 := hd 41 (by decide) _ rfl
              have f29 := hd 29 (by decide) _ rfl
              have e35 : σ 35 = _ := f35.1 hon
              have e41 : σ 41 = _ := f41.1 hon
              have e29 : σ 29 = _ := f29.1 trivial
              have hgd : σ 29 = .bool true := hon
              have hgb := (f29.1 trivial : σ 29 = _).symm.trans hgd
              simp only [Value.bool.injEq] at hgb
              try simp only [decide_eq_true_eq, decide_eq_false_iff_not, Bool.or_eq_true, Bool.and_eq_true, Bool.or_eq_false_iff, Bool.and_eq_false_iff, Bool.not_eq_true', Bool.not_eq_false', Int.not_lt, Int.not_le, ne_eq, Decidable.not_not] at hgb
              exact OpOK.sub (r := [(165, _), (171, _), (5, _), (7, _), (12, _), (13, _), (14, _)]) ⟨congrArg some e35, congrArg some e41, rfl, rfl, rfl, rfl, rfl, trivial⟩ (by
                exact OpOK.eq (r_eql rfl rfl))
              ), (fun _ _ _ _ _ _ h => h), (FreeR.no _), ?_⟩
          refine ⟨_, false, (fun σ ι w1 hg hd hon => by
              have f29 := hd 29 (by decide) _ rfl
              have f42 := hd 42 (by decide) _ rfl
              have e29 : σ 29 = _ := f29.1 trivial
              have ec : σ 29 = _ := f29.1 trivial
              exact OpOK.id (by refine OpOK.and (dc := 159) (dy := 172) (kc := σ 29) (ky := σ 42) ?_ ?_ ec (fun hb => f42.1 (by show σ 29 = _; rw [ec]; exact congrArg Value.bool hb)) <;> rfl)
              ), (fun _ _ _ _ _ _ h => h), (FreeR.no _), ?_⟩
          intro σ ι a50 w29 hgw29 H125 hd hap
          skip
          have hN0 := hN
          have hN := hN.ofGr ((Gr.refl _).drew.trans hgw29)
          replace hB5 := hB5.gr ((Gr.refl _).drew.trans hgw29)
          replace hB12 := hB12.gr ((Gr.refl _).drew.trans hgw29)
          replace hB13 := hB13.gr ((Gr.refl _).drew.trans hgw29)
          replace hB14 := hB14.gr ((Gr.refl _).drew.trans hgw29)
          have e43 : σ 43 = _ := (hd 43 (by decide) _ rfl).1 trivial
          replace H125 := H125.sub (r := [(173, _), (5, _), (7, _), (12, _), (13, _), (14, _)]) ⟨congrArg some e43, rfl, rfl, rfl, rfl, rfl, trivial⟩
          clear hd
          clear hap
          refine wl1 H125 (r_move rfl) rfl rfl rfl rfl fun a51 H126 => ?_
          clear H125 a50
          refine wl_split (t := 174) H126 rfl (fun hg17_44 H127 => ?_) (fun hg17_44 H127 => ?_)
          ·
            clear H126
            try simp only [decide_eq_true_eq, decide_eq_false_iff_not, Bool.or_eq_true, Bool.and_eq_true, Bool.or_eq_false_iff, Bool.and_eq_false_iff, Bool.not_eq_true', Bool.not_eq_false', Int.not_lt, Int.not_le, ne_eq, Decidable.not_not] at hg17_44
            refine wl_on (d := 174) H127 rfl rfl rfl ?_
            refine wl1 H127 (r_move rfl) rfl rfl rfl rfl fun a52 H128 => ?_
            clear H127 a51
            refine wl1 H128 (r_pick_t rfl rfl) rfl rfl rfl rfl fun a53 H129 => ?_
            clear H128 a52
            replace H129 := H129.known (t := 176) (b := true) rfl (by simp)
            refine wl1 H129 (r_assign rfl) rfl rfl rfl rfl fun a54 H130 => ?_
            clear H129 a53
            refine wl_end ?_
            refine th_n ?_
            refine wpIn_ret ?_
            refine fin_r H130 (res1 rfl H130 rfl) ?_
            exact ⟨rfl, hN.gr⟩
          ·
            clear H126
            try simp only [decide_eq_true_eq, decide_eq_false_iff_not, Bool.or_eq_true, Bool.and_eq_true, Bool.or_eq_false_iff, Bool.and_eq_false_iff, Bool.not_eq_true', Bool.not_eq_false', Int.not_lt, Int.not_le, ne_eq, Decidable.not_not] at hg17_44
            exact absurd hg17_44 (by simp)
  -- UNUSED r7.42
  -- UNUSED r17.46
end Go.Proofs.Ytlikefnngkokhaa
