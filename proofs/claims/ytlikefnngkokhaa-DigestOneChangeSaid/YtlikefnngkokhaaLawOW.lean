/- The law DigestOneChange, walked. -/
import Derived.Test.YtlikefnngkokhaaDigB
import Derived.Test.YtlikefnngkokhaaOne
set_option linter.unusedVariables false
set_option linter.unusedSimpArgs false
namespace Go.Proofs.Ytlikefnngkokhaa
open Go.RowKit


theorem words_ret' {A : Option Addr} {l : List Int} {n c : Nat} {I : Im} {w : World} (hS : Sat I w) (h : Els (kInt .i64) I A l) (hn : l.length = n) : Ret Try.prog 17 [.slice A n c] w (fun v w' => v = .int .u64 (dwords l) ∧ Gr w w') := by subst hn; exact words_ret hS h
theorem bytes_ret' {A : Option Addr} {l : List Int} {n c : Nat} {I : Im} {w : World} (hS : Sat I w) (h : Els (kInt .u8) I A l) (hn : l.length = n) (hc : n ≤ c) : Ret Try.prog 19 [.slice A n c] w (fun v w' => v = .int .u64 (dbytes l) ∧ Gr w w') := by subst hn; exact bytes_ret hS h hc

set_option maxRecDepth 100000 in
set_option maxHeartbeats 2000000 in
theorem one_ret {A B : Option Addr} {c c2 : Nat} {l bs : List Int} {z0 z1 z2 z3 : Int} {I : Im} {w : World} (hS : Sat I w) (hA : Els (kInt .i64) I A l) (hlc : l.length ≤ c) (hE0 : Els (kInt .u8) I B bs) (hbc : bs.length ≤ c2) (hz0 : U z0) (hz1 : U z1) (hz2 : U z2) (hz3 : U z3) :
    Ret Try.prog 8 [.slice A l.length c, .slice B bs.length c2, .agg #[.int .u64 z0, .int .u64 z1, .int .u64 z2, .int .u64 z3]] w (fun v w' => v = .bool true ∧ Gr w w') := by
  have hz30 := hz3.1
  have hz31 := hz3.2
  refine ret_of (N := 167) Try.func8 rfl rfl rfl fun a0 H0 => ?_
  have hN := New.refl hS
  simp only [argsEnv, Nat.zero_add, Nat.reduceAdd] at H0
  refine wpIn_seq ?_
  refine w_reg ?_
  refine s_box H0 rfl rfl hN fun w1 b5 hN gw1 hB5 hgeb5 heb5 a1 H1 => ?_
  clear H0 a0
  replace hB5 : Box _ _ _ [_, _, _, _] 56 := hB5
  refine wl1 H1 (r_assign rfl) rfl rfl rfl rfl fun a2 H2 => ?_
  clear H1 a1
  refine wl_end ?_
  refine th_n ?_
  refine wpIn_seq ?_
  refine w_reg ?_
  refine wlc  H2 rfl rfl hb9 rfl (br_ex hN.sat) fun v w2 hR a3 H3 => ?_
  clear H2 a2
  obtain ⟨rfl, gw2⟩ := hR
  have hN := hN.ofGr gw2
  replace hB5 := hB5.gr gw2
  replace H3 := H3.known (t := 12) (b := true) rfl rfl
  refine wl1 H3 (r_assign rfl) rfl rfl rfl rfl fun a4 H4 => ?_
  clear H3 a3
  refine wl_end ?_
  refine th_n ?_
  refine wpIn_seq ?_
  refine wpIn_seq ?_
  refine w_reg ?_
  refine wl1 H4 (r_move rfl) rfl rfl rfl rfl fun a5 H5 => ?_
  clear H4 a4
  refine wl1 H5 (r_not rfl) rfl rfl rfl rfl fun a6 H6 => ?_
  clear H5 a5
  replace H6 := H6.known (t := 14) (b := false) rfl rfl
  refine wl_end ?_
  refine th_n ?_
  refine w_ff H6 rfl rfl ?_
  refine wpIn_skip ?_
  refine th_n ?_
  refine wpIn_seq ?_
  refine wpIn_seq ?_
  refine w_reg ?_
  refine wl1 H6 (r_move rfl) rfl rfl rfl rfl fun a7 H7 => ?_
  clear H6 a6
  refine wl1 H7 (r_len Try.underlying47 rfl) rfl rfl rfl rfl fun a8 H8 => ?_
  clear H7 a7
  refine wl1 H8 (r_gtr rfl rfl) rfl rfl rfl rfl fun a9 H9 => ?_
  clear H8 a8
  refine wl1 H9 (r_move rfl) rfl rfl rfl rfl fun a10 H10 => ?_
  clear H9 a9
  refine wl_split (t := 18) H10 rfl (fun hg4_3 H11 => ?_) (fun hg4_3 H11 => ?_)
  ·
    clear H10
    try simp only [decide_eq_true_eq, decide_eq_false_iff_not, Bool.or_eq_true, Bool.and_eq_true, Bool.or_eq_false_iff, Bool.and_eq_false_iff, Bool.not_eq_true', Bool.not_eq_false', Int.not_lt, Int.not_le, ne_eq, Decidable.not_not] at hg4_3
    refine wl_off (d := 18) H11 rfl rfl rfl rfl rfl rfl fun a11 H12 => ?_
    clear H11 a10
    refine wl_off (d := 18) H12 rfl rfl rfl rfl rfl rfl fun a12 H13 => ?_
    clear H12 a11
    refine wl_off (d := 18) H13 rfl rfl rfl rfl rfl rfl fun a13 H14 => ?_
    clear H13 a12
    refine wl1 H14 (r_pick_t rfl rfl) rfl rfl rfl rfl fun a14 H15 => ?_
    clear H14 a13
    refine wl_end ?_
    refine th_n ?_
    refine w_tt H15 rfl rfl ?_
    refine wpIn_seq ?_
    refine w_reg ?_
    refine wl1 H15 (r_move rfl) rfl rfl rfl rfl fun a15 H16 => ?_
    clear H15 a14
    refine wl1 H16 (r_assign rfl) rfl rfl rfl rfl fun a16 H17 => ?_
    clear H16 a15
    refine wl_end ?_
    refine th_n ?_
    refine wpIn_ret ?_
    refine th_r ?_
    refine fin_r H17 (res1 rfl H17 rfl) ?_
    exact ⟨rfl, hN.gr⟩
  ·
    clear H10
    try simp only [decide_eq_true_eq, decide_eq_false_iff_not, Bool.or_eq_true, Bool.and_eq_true, Bool.or_eq_false_iff, Bool.and_eq_false_iff, Bool.not_eq_true', Bool.not_eq_false', Int.not_lt, Int.not_le, ne_eq, Decidable.not_not] at hg4_3
    refine wl_on (d := 18) H11 rfl rfl rfl ?_
    refine wl1 H11 (r_move rfl) rfl rfl rfl rfl fun a11 H18 => ?_
    clear H11 a10
    refine wl_on (d := 18) H18 rfl rfl rfl ?_
    refine wl1 H18 (r_len Try.underlying48 rfl) rfl rfl rfl rfl fun a12 H19 => ?_
    clear H18 a11
    refine wl_on (d := 18) H19 rfl rfl rfl ?_
    refine wl1 H19 (r_gtr rfl rfl) rfl rfl rfl rfl fun a13 H20 => ?_
    clear H19 a12
    refine wl1 H20 (r_pick_f rfl rfl) rfl rfl rfl rfl fun a14 H21 => ?_
    clear H20 a13
    refine wl_end ?_
    refine th_n ?_
    first | refine w_if H21 rfl (fun hc22 => ?_) (fun hc22 => ?_) | refine w_cond H21 rfl (fun hc22 => ?_) (fun hc22 => ?_)
    ·
      try simp only [decide_eq_true_eq, decide_eq_false_iff_not, Bool.or_eq_true, Bool.and_eq_true, Bool.or_eq_false_iff, Bool.and_eq_false_iff, Bool.not_eq_true', Bool.not_eq_false', Int.not_lt, Int.not_le, ne_eq, Decidable.not_not] at hc22
      refine wpIn_seq ?_
      refine w_reg ?_
      refine wl1 H21 (r_move rfl) rfl rfl rfl rfl fun a15 H22 => ?_
      clear H21 a14
      refine wl1 H22 (r_assign rfl) rfl rfl rfl rfl fun a16 H23 => ?_
      clear H22 a15
      refine wl_end ?_
      refine th_n ?_
      refine wpIn_ret ?_
      refine th_r ?_
      refine fin_r H23 (res1 rfl H23 rfl) ?_
      exact ⟨rfl, hN.gr⟩
    ·
      try simp only [decide_eq_true_eq, decide_eq_false_iff_not, Bool.or_eq_true, Bool.and_eq_true, Bool.or_eq_false_iff, Bool.and_eq_false_iff, Bool.not_eq_true', Bool.not_eq_false', Int.not_lt, Int.not_le, ne_eq, Decidable.not_not] at hc22
      refine wpIn_skip ?_
      refine th_n ?_
      refine wpIn_seq ?_
      refine wpIn_seq ?_
      have hS0 := hN.sat
      have hNsz6 := hN.gr.size
      refine w_drawE (m := 53) (l0 := [(0, _), (1, _), (5, _), (6, _), (7, _)]) hfol H21 ⟨rfl, rfl, rfl, rfl, rfl, trivial⟩ (by kernel_rfl) ?_
      refine ⟨_, false, (fun σ ι w1 hg hd hon => by
          exact OpOK.sub (r := [(0, _), (1, _), (5, _), (6, _), (7, _)]) ⟨rfl, rfl, rfl, rfl, rfl, trivial⟩ (by
            exact OpOK.eq (r_idxA Try.underlying56 sz33 rfl rfl (i := 0) rfl (by omega)))
          ), (fun _ _ _ _ _ _ h => h), (FreeR.no _), ?_⟩
      refine ⟨_, false, (fun σ ι w1 hg hd hon => by
          have hN := hN.ofGr ((Gr.refl _).drew.trans hg)
          have hB5 := hB5.gr ((Gr.refl _).drew.trans hg)
          have f0 := hd 0 (by decide) _ rfl
          have e0 : σ 0 = _ := f0.1 trivial
          exact OpOK.sub (r := [(24, _), (0, _), (1, _), (5, _), (6, _), (7, _)]) ⟨congrArg some e0, rfl, rfl, rfl, rfl, rfl, trivial⟩ (by
            exact OpOK.eq (r_load sc33 rfl (hB5.cell rfl)))
          ), (fun _ _ _ _ _ _ h => h), (FreeR.no _), ?_⟩
      refine ⟨_, false, (fun σ ι w1 hg hd hon => by
          exact OpOK.sub (r := [(0, _), (1, _), (5, _), (6, _), (7, _)]) ⟨rfl, rfl, rfl, rfl, rfl, trivial⟩ (by
            exact OpOK.eq (r_move rfl))
          ), (fun _ _ _ _ _ _ h => h), (FreeR.no _), ?_⟩
      refine ⟨_, true, (fun σ ι w1 hg hd hon => by
          have hN := hN.ofGr ((Gr.refl _).drew.trans hg)
          have hB5 := hB5.gr ((Gr.refl _).drew.trans hg)
          have f1 := hd 1 (by decide) _ rfl
          have f2 := hd 2 (by decide) _ rfl
          have e1 : σ 1 = _ := f1.1 trivial
          have e2 : σ 2 = _ := f2.1 trivial
          skip
          exact CallOK.sub (r := [(25, _), (26, _), (0, _), (1, _), (5, _), (6, _), (7, _)]) ⟨congrArg some e1, congrArg some e2, rfl, rfl, rfl, rfl, rfl, trivial⟩ (by
            exact CallOK.V (enters_of rfl rfl hb23) (tag_ret' hN.sat hA rfl))
          ), (fun _ _ _ _ _ _ h => h), (fun _ _ _ _ _ _ h => h), ?_⟩
      refine ⟨_, false, (fun σ ι w1 hg hd hon => by
          exact OpOK.sub (r := [(0, _), (1, _), (5, _), (6, _), (7, _)]) ⟨rfl, rfl, rfl, rfl, rfl, trivial⟩ (by
            exact OpOK.eq (r_idxA Try.underlying56 sz33 rfl rfl (i := 1) rfl (by omega)))
          ), (fun _ _ _ _ _ _ h => h), (FreeR.no _), ?_⟩
      refine ⟨_, false, (fun σ ι w1 hg hd hon => by
          have hN := hN.ofGr ((Gr.refl _).drew.trans hg)
          have hB5 := hB5.gr ((Gr.refl _).drew.trans hg)
          have f4 := hd 4 (by decide) _ rfl
          have e4 : σ 4 = _ := f4.1 trivial
          exact OpOK.sub (r := [(28, _), (0, _), (1, _), (5, _), (6, _), (7, _)]) ⟨congrArg some e4, rfl, rfl, rfl, rfl, rfl, trivial⟩ (by
            exact OpOK.eq (r_load sc33 rfl (hB5.cell rfl)))
          ), (fun _ _ _ _ _ _ h => h), (FreeR.no _), ?_⟩
      refine ⟨_, false, (fun σ ι w1 hg hd hon => by
          exact OpOK.sub (r := [(0, _), (1, _), (5, _), (6, _), (7, _)]) ⟨rfl, rfl, rfl, rfl, rfl, trivial⟩ (by
            exact OpOK.eq (r_move rfl))
          ), (fun _ _ _ _ _ _ h => h), (FreeR.no _), ?_⟩
      refine ⟨_, true, (fun σ ι w1 hg hd hon => by
          have hN := hN.ofGr ((Gr.refl _).drew.trans hg)
          have hB5 := hB5.gr ((Gr.refl _).drew.trans hg)
          have f5 := hd 5 (by decide) _ rfl
          have f6 := hd 6 (by decide) _ rfl
          have e5 : σ 5 = _ := f5.1 trivial
          have e6 : σ 6 = _ := f6.1 trivial
          skip
          exact CallOK.sub (r := [(29, _), (30, _), (0, _), (1, _), (5, _), (6, _), (7, _)]) ⟨congrArg some e5, congrArg some e6, rfl, rfl, rfl, rfl, rfl, trivial⟩ (by
            exact CallOK.V (enters_of rfl rfl hb23) (tag_ret' hN.sat hA rfl))
          ), (fun _ _ _ _ _ _ h => h), (fun _ _ _ _ _ _ h => h), ?_⟩
      refine ⟨_, false, (fun σ ι w1 hg hd hon => by
          have f3 := hd 3 (by decide) _ rfl
          have f7 := hd 7 (by decide) _ rfl
          have e3 : σ 3 = _ := f3.1 trivial
          have e7 : σ 7 = _ := f7.1 trivial
          exact OpOK.sub (r := [(27, _), (31, _), (0, _), (1, _), (5, _), (6, _), (7, _)]) ⟨congrArg some e3, congrArg some e7, rfl, rfl, rfl, rfl, rfl, trivial⟩ (by
            exact OpOK.eq (r_eql rfl rfl))
          ), (fun _ _ _ _ _ _ h => h), (FreeR.no _), ?_⟩
      refine ⟨_, false, (fun σ ι w1 hg hd hon => by
          exact OpOK.sub (r := [(0, _), (1, _), (5, _), (6, _), (7, _)]) ⟨rfl, rfl, rfl, rfl, rfl, trivial⟩ (by
            exact OpOK.eq (r_idxA Try.underlying56 sz33 rfl rfl (i := 0) rfl (by omega)))
          ), (fun _ _ _ _ _ _ h => h), (FreeR.no _), ?_⟩
      refine ⟨_, false, (fun σ ι w1 hg hd hon => by
          have hN := hN.ofGr ((Gr.refl _).drew.trans hg)
          have hB5 := hB5.gr ((Gr.refl _).drew.trans hg)
          have f9 := hd 9 (by decide) _ rfl
          have e9 : σ 9 = _ := f9.1 trivial
          exact OpOK.sub (r := [(33, _), (0, _), (1, _), (5, _), (6, _), (7, _)]) ⟨congrArg some e9, rfl, rfl, rfl, rfl, rfl, trivial⟩ (by
            exact OpOK.eq (r_load sc33 rfl (hB5.cell rfl)))
          ), (fun _ _ _ _ _ _ h => h), (FreeR.no _), ?_⟩
      refine ⟨_, false, (fun σ ι w1 hg hd hon => by
          exact OpOK.sub (r := [(0, _), (1, _), (5, _), (6, _), (7, _)]) ⟨rfl, rfl, rfl, rfl, rfl, trivial⟩ (by
            exact OpOK.eq (r_idxA Try.underlying56 sz33 rfl rfl (i := 1) rfl (by omega)))
          ), (fun _ _ _ _ _ _ h => h), (FreeR.no _), ?_⟩
      refine ⟨_, false, (fun σ ι w1 hg hd hon => by
          have hN := hN.ofGr ((Gr.refl _).drew.trans hg)
          have hB5 := hB5.gr ((Gr.refl _).drew.trans hg)
          have f11 := hd 11 (by decide) _ rfl
          have e11 : σ 11 = _ := f11.1 trivial
          exact OpOK.sub (r := [(35, _), (0, _), (1, _), (5, _), (6, _), (7, _)]) ⟨congrArg some e11, rfl, rfl, rfl, rfl, rfl, trivial⟩ (by
            exact OpOK.eq (r_load sc33 rfl (hB5.cell rfl)))
          ), (fun _ _ _ _ _ _ h => h), (FreeR.no _), ?_⟩
      refine ⟨_, false, (fun σ ι w1 hg hd hon => by
          have f10 := hd 10 (by decide) _ rfl
          have f12 := hd 12 (by decide) _ rfl
          have e10 : σ 10 = _ := f10.1 trivial
          have e12 : σ 12 = _ := f12.1 trivial
          exact OpOK.sub (r := [(34, _), (36, _), (0, _), (1, _), (5, _), (6, _), (7, _)]) ⟨congrArg some e10, congrArg some e12, rfl, rfl, rfl, rfl, rfl, trivial⟩ (by
            exact OpOK.eq (r_eql rfl rfl))
          ), (fun _ _ _ _ _ _ h => h), (FreeR.no _), ?_⟩
      refine ⟨_, false, (fun σ ι w1 hg hd hon => by
          have f8 := hd 8 (by decide) _ rfl
          have f13 := hd 13 (by decide) _ rfl
          have e8 : σ 8 = _ := f8.1 trivial
          have e13 : σ 13 = _ := f13.1 trivial
          exact OpOK.sub (r := [(32, _), (37, _), (0, _), (1, _), (5, _), (6, _), (7, _)]) ⟨congrArg some e8, congrArg some e13, rfl, rfl, rfl, rfl, rfl, trivial⟩ (by
            exact OpOK.eq (r_neb Try.underlying4 rfl rfl))
          ), (fun _ _ _ _ _ _ h => h), (FreeR.no _), ?_⟩
      refine ⟨_, false, (fun σ ι w1 hg hd hon => by
          have f14 := hd 14 (by decide) _ rfl
          have e14 : σ 14 = _ := f14.1 trivial
          exact OpOK.sub (r := [(38, _), (0, _), (1, _), (5, _), (6, _), (7, _)]) ⟨congrArg some e14, rfl, rfl, rfl, rfl, rfl, trivial⟩ (by
            exact OpOK.eq (r_move rfl))
          ), (fun _ _ _ _ _ _ h => h), (FreeR.no _), ?_⟩
      refine ⟨_, false, (fun σ ι w1 hg hd hon => by
          have f15 := hd 15 (by decide) _ rfl
          have e15 : σ 15 = _ := f15.1 trivial
          have hgd : σ 15 = .bool false := hon
          have hgb := (f15.1 trivial : σ 15 = _).symm.trans hgd
          simp only [Value.bool.injEq] at hgb
          try simp only [decide_eq_true_eq, decide_eq_false_iff_not, Bool.or_eq_true, Bool.and_eq_true, Bool.or_eq_false_iff, Bool.and_eq_false_iff, Bool.not_eq_true', Bool.not_eq_false', Int.not_lt, Int.not_le, ne_eq, Decidable.not_not] at hgb
          exact OpOK.sub (r := [(0, _), (1, _), (5, _), (6, _), (7, _)]) ⟨rfl, rfl, rfl, rfl, rfl, trivial⟩ (by
            exact OpOK.eq (r_idxA Try.underlying56 sz33 rfl rfl (i := 0) rfl (by omega)))
          ), (fun _ _ _ _ _ _ h => h), (FreeR.no _), ?_⟩
      refine ⟨_, false, (fun σ ι w1 hg hd hon => by
          have hN := hN.ofGr ((Gr.refl _).drew.trans hg)
          have hB5 := hB5.gr ((Gr.refl _).drew.trans hg)
          have f16 := hd 16 (by decide) _ rfl
          have f15 := hd 15 (by decide) _ rfl
          have e16 : σ 16 = _ := f16.1 hon
          have e15 : σ 15 = _ := f15.1 trivial
          have hgd : σ 15 = .bool false := hon
          have hgb := (f15.1 trivial : σ 15 = _).symm.trans hgd
          simp only [Value.bool.injEq] at hgb
          try simp only [decide_eq_true_eq, decide_eq_false_iff_not, Bool.or_eq_true, Bool.and_eq_true, Bool.or_eq_false_iff, Bool.and_eq_false_iff, Bool.not_eq_true', Bool.not_eq_false', Int.not_lt, Int.not_le, ne_eq, Decidable.not_not] at hgb
          exact OpOK.sub (r := [(40, _), (0, _), (1, _), (5, _), (6, _), (7, _)]) ⟨congrArg some e16, rfl, rfl, rfl, rfl, rfl, trivial⟩ (by
            exact OpOK.eq (r_load sc33 rfl (hB5.cell rfl)))
          ), (fun _ _ _ _ _ _ h => h), (FreeR.no _), ?_⟩
      refine ⟨_, false, (fun σ ι w1 hg hd hon => by
          have f15 := hd 15 (by decide) _ rfl
          have e15 : σ 15 = _ := f15.1 trivial
          have hgd : σ 15 = .bool false := hon
          have hgb := (f15.1 trivial : σ 15 = _).symm.trans hgd
          simp only [Value.bool.injEq] at hgb
          try simp only [decide_eq_true_eq, decide_eq_false_iff_not, Bool.or_eq_true, Bool.and_eq_true, Bool.or_eq_false_iff, Bool.and_eq_false_iff, Bool.not_eq_true', Bool.not_eq_false', Int.not_lt, Int.not_le, ne_eq, Decidable.not_not] at hgb
          exact OpOK.sub (r := [(0, _), (1, _), (5, _), (6, _), (7, _)]) ⟨rfl, rfl, rfl, rfl, rfl, trivial⟩ (by
            exact OpOK.eq (r_idxA Try.underlying56 sz33 rfl rfl (i := 1) rfl (by omega)))
          ), (fun _ _ _ _ _ _ h => h), (FreeR.no _), ?_⟩
      refine ⟨_, false, (fun σ ι w1 hg hd hon => by
          have hN := hN.ofGr ((Gr.refl _).drew.trans hg)
          have hB5 := hB5.gr ((Gr.refl _).drew.trans hg)
          have f18 := hd 18 (by decide) _ rfl
          have f15 := hd 15 (by decide) _ rfl
          have e18 : σ 18 = _ := f18.1 hon
          have e15 : σ 15 = _ := f15.1 trivial
          have hgd : σ 15 = .bool false := hon
          have hgb := (f15.1 trivial : σ 15 = _).symm.trans hgd
          simp only [Value.bool.injEq] at hgb
          try simp only [decide_eq_true_eq, decide_eq_false_iff_not, Bool.or_eq_true, Bool.and_eq_true, Bool.or_eq_false_iff, Bool.and_eq_false_iff, Bool.not_eq_true', Bool.not_eq_false', Int.not_lt, Int.not_le, ne_eq, Decidable.not_not] at hgb
          exact OpOK.sub (r := [(42, _), (0, _), (1, _), (5, _), (6, _), (7, _)]) ⟨congrArg some e18, rfl, rfl, rfl, rfl, rfl, trivial⟩ (by
            exact OpOK.eq (r_load sc33 rfl (hB5.cell rfl)))
          ), (fun _ _ _ _ _ _ h => h), (FreeR.no _), ?_⟩
      refine ⟨_, true, (fun σ ι w1 hg hd hon => by
          have hN := hN.ofGr ((Gr.refl _).drew.trans hg)
          have hB5 := hB5.gr ((Gr.refl _).drew.trans hg)
          have f17 := hd 17 (by decide) _ rfl
          have f19 := hd 19 (by decide) _ rfl
          have f15 := hd 15 (by decide) _ rfl
          have e17 : σ 17 = _ := f17.1 hon
          have e19 : σ 19 = _ := f19.1 hon
          have e15 : σ 15 = _ := f15.1 trivial
          have hgd : σ 15 = .bool false := hon
          have hgb := (f15.1 trivial : σ 15 = _).symm.trans hgd
          simp only [Value.bool.injEq] at hgb
          try simp only [decide_eq_true_eq, decide_eq_false_iff_not, Bool.or_eq_true, Bool.and_eq_true, Bool.or_eq_false_iff, Bool.and_eq_false_iff, Bool.not_eq_true', Bool.not_eq_false', Int.not_lt, Int.not_le, ne_eq, Decidable.not_not] at hgb
          skip
          exact CallOK.sub (r := [(41, _), (43, _), (0, _), (1, _), (5, _), (6, _), (7, _)]) ⟨congrArg some e17, congrArg some e19, rfl, rfl, rfl, rfl, rfl, trivial⟩ (by
            exact CallOK.V (enters_of rfl rfl hb21) (br_join hN.sat))
          ), (fun _ _ _ _ _ _ h => h), (fun _ _ _ _ _ _ h => h), ?_⟩
      refine ⟨_, false, (fun σ ι w1 hg hd hon => by
          have f15 := hd 15 (by decide) _ rfl
          have e15 : σ 15 = _ := f15.1 trivial
          have hgd : σ 15 = .bool false := hon
          have hgb := (f15.1 trivial : σ 15 = _).symm.trans hgd
          simp only [Value.bool.injEq] at hgb
          try simp only [decide_eq_true_eq, decide_eq_false_iff_not, Bool.or_eq_true, Bool.and_eq_true, Bool.or_eq_false_iff, Bool.and_eq_false_iff, Bool.not_eq_true', Bool.not_eq_false', Int.not_lt, Int.not_le, ne_eq, Decidable.not_not] at hgb
          exact OpOK.sub (r := [(0, _), (1, _), (5, _), (6, _), (7, _)]) ⟨rfl, rfl, rfl, rfl, rfl, trivial⟩ (by
            exact OpOK.eq (r_idxA Try.underlying56 sz33 rfl rfl (i := 2) rfl (by omega)))
          ), (fun _ _ _ _ _ _ h => h), (FreeR.no _), ?_⟩
      refine ⟨_, false, (fun σ ι w1 hg hd hon => by
          have hN := hN.ofGr ((Gr.refl _).drew.trans hg)
          have hB5 := hB5.gr ((Gr.refl _).drew.trans hg)
          have f21 := hd 21 (by decide) _ rfl
          have f15 := hd 15 (by decide) _ rfl
          have e21 : σ 21 = _ := f21.1 hon
          have e15 : σ 15 = _ := f15.1 trivial
          have hgd : σ 15 = .bool false := hon
          have hgb := (f15.1 trivial : σ 15 = _).symm.trans hgd
          simp only [Value.bool.injEq] at hgb
          try simp only [decide_eq_true_eq, decide_eq_false_iff_not, Bool.or_eq_true, Bool.and_eq_true, Bool.or_eq_false_iff, Bool.and_eq_false_iff, Bool.not_eq_true', Bool.not_eq_false', Int.not_lt, Int.not_le, ne_eq, Decidable.not_not] at hgb
          exact OpOK.sub (r := [(45, _), (0, _), (1, _), (5, _), (6, _), (7, _)]) ⟨congrArg some e21, rfl, rfl, rfl, rfl, rfl, trivial⟩ (by
            exact OpOK.eq (r_load sc33 rfl (hB5.cell rfl)))
          ), (fun _ _ _ _ _ _ h => h), (FreeR.no _), ?_⟩
      refine ⟨_, false, (fun σ ι w1 hg hd hon => by
          have f15 := hd 15 (by decide) _ rfl
          have e15 : σ 15 = _ := f15.1 trivial
          have hgd : σ 15 = .bool false := hon
          have hgb := (f15.1 trivial : σ 15 = _).symm.trans hgd
          simp only [Value.bool.injEq] at hgb
          try simp only [decide_eq_true_eq, decide_eq_false_iff_not, Bool.or_eq_true, Bool.and_eq_true, Bool.or_eq_false_iff, Bool.and_eq_false_iff, Bool.not_eq_true', Bool.not_eq_false', Int.not_lt, Int.not_le, ne_eq, Decidable.not_not] at hgb
          exact OpOK.sub (r := [(0, _), (1, _), (5, _), (6, _), (7, _)]) ⟨rfl, rfl, rfl, rfl, rfl, trivial⟩ (by
            exact OpOK.eq (r_idxA Try.underlying56 sz33 rfl rfl (i := 1) rfl (by omega)))
          ), (fun _ _ _ _ _ _ h => h), (FreeR.no _), ?_⟩
      refine ⟨_, false, (fun σ ι w1 hg hd hon => by
          have hN := hN.ofGr ((Gr.refl _).drew.trans hg)
          have hB5 := hB5.gr ((Gr.refl _).drew.trans hg)
          have f23 := hd 23 (by decide) _ rfl
          have f15 := hd 15 (by decide) _ rfl
          have e23 : σ 23 = _ := f23.1 hon
          have e15 : σ 15 = _ := f15.1 trivial
          have hgd : σ 15 = .bool false := hon
          have hgb := (f15.1 trivial : σ 15 = _).symm.trans hgd
          simp only [Value.bool.injEq] at hgb
          try simp only [decide_eq_true_eq, decide_eq_false_iff_not, Bool.or_eq_true, Bool.and_eq_true, Bool.or_eq_false_iff, Bool.and_eq_false_iff, Bool.not_eq_true', Bool.not_eq_false', Int.not_lt, Int.not_le, ne_eq, Decidable.not_not] at hgb
          exact OpOK.sub (r := [(47, _), (0, _), (1, _), (5, _), (6, _), (7, _)]) ⟨congrArg some e23, rfl, rfl, rfl, rfl, rfl, trivial⟩ (by
            exact OpOK.eq (r_load sc33 rfl (hB5.cell rfl)))
          ), (fun _ _ _ _ _ _ h => h), (FreeR.no _), ?_⟩
      refine ⟨_, true, (fun σ ι w1 hg hd hon => by
          have hN := hN.ofGr ((Gr.refl _).drew.trans hg)
          have hB5 := hB5.gr ((Gr.refl _).drew.trans hg)
          have f22 := hd 22 (by decide) _ rfl
          have f24 := hd 24 (by decide) _ rfl
          have f15 := hd 15 (by decide) _ rfl
          have e22 : σ 22 = _ := f22.1 hon
          have e24 : σ 24 = _ := f24.1 hon
          have e15 : σ 15 = _ := f15.1 trivial
          have hgd : σ 15 = .bool false := hon
          have hgb := (f15.1 trivial : σ 15 = _).symm.trans hgd
          simp only [Value.bool.injEq] at hgb
          try simp only [decide_eq_true_eq, decide_eq_false_iff_not, Bool.or_eq_true, Bool.and_eq_true, Bool.or_eq_false_iff, Bool.and_eq_false_iff, Bool.not_eq_true', Bool.not_eq_false', Int.not_lt, Int.not_le, ne_eq, Decidable.not_not] at hgb
          skip
          exact CallOK.sub (r := [(46, _), (48, _), (0, _), (1, _), (5, _), (6, _), (7, _)]) ⟨congrArg some e22, congrArg some e24, rfl, rfl, rfl, rfl, rfl, trivial⟩ (by
            exact CallOK.V (enters_of rfl rfl hb21) (br_join hN.sat))
          ), (fun _ _ _ _ _ _ h => h), (fun _ _ _ _ _ _ h => h), ?_⟩
      refine ⟨_, false, (fun σ ι w1 hg hd hon => by
          have f20 := hd 20 (by decide) _ rfl
          have f25 := hd 25 (by decide) _ rfl
          have f15 := hd 15 (by decide) _ rfl
          have e20 : σ 20 = _ := f20.1 hon
          have e25 : σ 25 = _ := f25.1 hon
          have e15 : σ 15 = _ := f15.1 trivial
          have hgd : σ 15 = .bool false := hon
          have hgb := (f15.1 trivial : σ 15 = _).symm.trans hgd
          simp only [Value.bool.injEq] at hgb
          try simp only [decide_eq_true_eq, decide_eq_false_iff_not, Bool.or_eq_true, Bool.and_eq_true, Bool.or_eq_false_iff, Bool.and_eq_false_iff, Bool.not_eq_true', Bool.not_eq_false', Int.not_lt, Int.not_le, ne_eq, Decidable.not_not] at hgb
          exact OpOK.sub (r := [(44, _), (49, _), (0, _), (1, _), (5, _), (6, _), (7, _)]) ⟨congrArg some e20, congrArg some e25, rfl, rfl, rfl, rfl, rfl, trivial⟩ (by
            exact OpOK.eq (r_eql rfl rfl))
          ), (fun _ _ _ _ _ _ h => h), (FreeR.no _), ?_⟩
      refine ⟨_, false, (fun σ ι w1 hg hd hon => by
          have f15 := hd 15 (by decide) _ rfl
          have e15 : σ 15 = _ := f15.1 trivial
          have hgd : σ 15 = .bool false := hon
          have hgb := (f15.1 trivial : σ 15 = _).symm.trans hgd
          simp only [Value.bool.injEq] at hgb
          try simp only [decide_eq_true_eq, decide_eq_false_iff_not, Bool.or_eq_true, Bool.and_eq_true, Bool.or_eq_false_iff, Bool.and_eq_false_iff, Bool.not_eq_true', Bool.not_eq_false', Int.not_lt, Int.not_le, ne_eq, Decidable.not_not] at hgb
          exact OpOK.sub (r := [(0, _), (1, _), (5, _), (6, _), (7, _)]) ⟨rfl, rfl, rfl, rfl, rfl, trivial⟩ (by
            exact OpOK.eq (r_idxA Try.underlying56 sz33 rfl rfl (i := 0) rfl (by omega)))
          ), (fun _ _ _ _ _ _ h => h), (FreeR.no _), ?_⟩
      refine ⟨_, false, (fun σ ι w1 hg hd hon => by
          have hN := hN.ofGr ((Gr.refl _).drew.trans hg)
          have hB5 := hB5.gr ((Gr.refl _).drew.trans hg)
          have f27 := hd 27 (by decide) _ rfl
          have f15 := hd 15 (by decide) _ rfl
          have e27 : σ 27 = _ := f27.1 hon
          have e15 : σ 15 = _ := f15.1 trivial
          have hgd : σ 15 = .bool false := hon
          have hgb := (f15.1 trivial : σ 15 = _).symm.trans hgd
          simp only [Value.bool.injEq] at hgb
          try simp only [decide_eq_true_eq, decide_eq_false_iff_not, Bool.or_eq_true, Bool.and_eq_true, Bool.or_eq_false_iff, Bool.and_eq_false_iff, Bool.not_eq_true', Bool.not_eq_false', Int.not_lt, Int.not_le, ne_eq, Decidable.not_not] at hgb
          exact OpOK.sub (r := [(51, _), (0, _), (1, _), (5, _), (6, _), (7, _)]) ⟨congrArg some e27, rfl, rfl, rfl, rfl, rfl, trivial⟩ (by
            exact OpOK.eq (r_load sc33 rfl (hB5.cell rfl)))
          ), (fun _ _ _ _ _ _ h => h), (FreeR.no _), ?_⟩
      refine ⟨_, false, (fun σ ι w1 hg hd hon => by
          have f15 := hd 15 (by decide) _ rfl
          have e15 : σ 15 = _ := f15.1 trivial
          have hgd : σ 15 = .bool false := hon
          have hgb := (f15.1 trivial : σ 15 = _).symm.trans hgd
          simp only [Value.bool.injEq] at hgb
          try simp only [decide_eq_true_eq, decide_eq_false_iff_not, Bool.or_eq_true, Bool.and_eq_true, Bool.or_eq_false_iff, Bool.and_eq_false_iff, Bool.not_eq_true', Bool.not_eq_false', Int.not_lt, Int.not_le, ne_eq, Decidable.not_not] at hgb
          exact OpOK.sub (r := [(0, _), (1, _), (5, _), (6, _), (7, _)]) ⟨rfl, rfl, rfl, rfl, rfl, trivial⟩ (by
            exact OpOK.eq (r_idxA Try.underlying56 sz33 rfl rfl (i := 2) rfl (by omega)))
          ), (fun _ _ _ _ _ _ h => h), (FreeR.no _), ?_⟩
      refine ⟨_, false, (fun σ ι w1 hg hd hon => by
          have hN := hN.ofGr ((Gr.refl _).drew.trans hg)
          have hB5 := hB5.gr ((Gr.refl _).drew.trans hg)
          have f29 := hd 29 (by decide) _ rfl
          have f15 := hd 15 (by decide) _ rfl
          have e29 : σ 29 = _ := f29.1 hon
          have e15 : σ 15 = _ := f15.1 trivial
          have hgd : σ 15 = .bool false := hon
          have hgb := (f15.1 trivial : σ 15 = _).symm.trans hgd
          simp only [Value.bool.injEq] at hgb
          try simp only [decide_eq_true_eq, decide_eq_false_iff_not, Bool.or_eq_true, Bool.and_eq_true, Bool.or_eq_false_iff, Bool.and_eq_false_iff, Bool.not_eq_true', Bool.not_eq_false', Int.not_lt, Int.not_le, ne_eq, Decidable.not_not] at hgb
          exact OpOK.sub (r := [(53, _), (0, _), (1, _), (5, _), (6, _), (7, _)]) ⟨congrArg some e29, rfl, rfl, rfl, rfl, rfl, trivial⟩ (by
            exact OpOK.eq (r_load sc33 rfl (hB5.cell rfl)))
          ), (fun _ _ _ _ _ _ h => h), (FreeR.no _), ?_⟩
      refine ⟨_, false, (fun σ ι w1 hg hd hon => by
          have f28 := hd 28 (by decide) _ rfl
          have f30 := hd 30 (by decide) _ rfl
          have f15 := hd 15 (by decide) _ rfl
          have e28 : σ 28 = _ := f28.1 hon
          have e30 : σ 30 = _ := f30.1 hon
          have e15 : σ 15 = _ := f15.1 trivial
          have hgd : σ 15 = .bool false := hon
          have hgb := (f15.1 trivial : σ 15 = _).symm.trans hgd
          simp only [Value.bool.injEq] at hgb
          try simp only [decide_eq_true_eq, decide_eq_false_iff_not, Bool.or_eq_true, Bool.and_eq_true, Bool.or_eq_false_iff, Bool.and_eq_false_iff, Bool.not_eq_true', Bool.not_eq_false', Int.not_lt, Int.not_le, ne_eq, Decidable.not_not] at hgb
          exact OpOK.sub (r := [(52, _), (54, _), (0, _), (1, _), (5, _), (6, _), (7, _)]) ⟨congrArg some e28, congrArg some e30, rfl, rfl, rfl, rfl, rfl, trivial⟩ (by
            exact OpOK.eq (r_eql rfl rfl))
          ), (fun _ _ _ _ _ _ h => h), (FreeR.no _), ?_⟩
      refine ⟨_, false, (fun σ ι w1 hg hd hon => by
          have f26 := hd 26 (by decide) _ rfl
          have f31 := hd 31 (by decide) _ rfl
          have f15 := hd 15 (by decide) _ rfl
          have e26 : σ 26 = _ := f26.1 hon
          have e31 : σ 31 = _ := f31.1 hon
          have e15 : σ 15 = _ := f15.1 trivial
          have hgd : σ 15 = .bool false := hon
          have hgb := (f15.1 trivial : σ 15 = _).symm.trans hgd
          simp only [Value.bool.injEq] at hgb
          try simp only [decide_eq_true_eq, decide_eq_false_iff_not, Bool.or_eq_true, Bool.and_eq_true, Bool.or_eq_false_iff, Bool.and_eq_false_iff, Bool.not_eq_true', Bool.not_eq_false', Int.not_lt, Int.not_le, ne_eq, Decidable.not_not] at hgb
          exact OpOK.sub (r := [(50, _), (55, _), (0, _), (1, _), (5, _), (6, _), (7, _)]) ⟨congrArg some e26, congrArg some e31, rfl, rfl, rfl, rfl, rfl, trivial⟩ (by
            exact OpOK.eq (r_neb Try.underlying4 rfl rfl))
          ), (fun _ _ _ _ _ _ h => h), (FreeR.no _), ?_⟩
      refine ⟨_, false, (fun σ ι w1 hg hd hon => by
          have f15 := hd 15 (by decide) _ rfl
          have f32 := hd 32 (by decide) _ rfl
          have e15 : σ 15 = _ := f15.1 trivial
          have ec : σ 15 = _ := f15.1 trivial
          exact OpOK.id (by refine OpOK.or (dc := 39) (dy := 56) (kc := σ 15) (ky := σ 32) ?_ ?_ ec (fun hb => f32.1 (by show σ 15 = _; rw [ec]; exact congrArg Value.bool hb)) <;> rfl)
          ), (fun _ _ _ _ _ _ h => h), (FreeR.no _), ?_⟩
      refine ⟨_, false, (fun σ ι w1 hg hd hon => by
          have f33 := hd 33 (by decide) _ rfl
          have e33 : σ 33 = _ := f33.1 trivial
          exact OpOK.sub (r := [(57, _), (0, _), (1, _), (5, _), (6, _), (7, _)]) ⟨congrArg some e33, rfl, rfl, rfl, rfl, rfl, trivial⟩ (by
            exact OpOK.eq (r_move rfl))
          ), (fun _ _ _ _ _ _ h => h), (FreeR.no _), ?_⟩
      refine ⟨_, false, (fun σ ι w1 hg hd hon => by
          have f34 := hd 34 (by decide) _ rfl
          have e34 : σ 34 = _ := f34.1 trivial
          have hgd : σ 34 = .bool false := hon
          have hgb := (f34.1 trivial : σ 34 = _).symm.trans hgd
          simp only [Value.bool.injEq] at hgb
          try simp only [decide_eq_true_eq, decide_eq_false_iff_not, Bool.or_eq_true, Bool.and_eq_true, Bool.or_eq_false_iff, Bool.and_eq_false_iff, Bool.not_eq_true', Bool.not_eq_false', Int.not_lt, Int.not_le, ne_eq, Decidable.not_not] at hgb
          exact OpOK.sub (r := [(0, _), (1, _), (5, _), (6, _), (7, _)]) ⟨rfl, rfl, rfl, rfl, rfl, trivial⟩ (by
            exact OpOK.eq (r_idxA Try.underlying56 sz33 rfl rfl (i := 0) rfl (by omega)))
          ), (fun _ _ _ _ _ _ h => h), (FreeR.no _), ?_⟩
      refine ⟨_, false, (fun σ ι w1 hg hd hon => by
          have hN := hN.ofGr ((Gr.refl _).drew.trans hg)
          have hB5 := hB5.gr ((Gr.refl _).drew.trans hg)
          have f35 := hd 35 (by decide) _ rfl
          have f34 := hd 34 (by decide) _ rfl
          have e35 : σ 35 = _ := f35.1 hon
          have e34 : σ 34 = _ := f34.1 trivial
          have hgd : σ 34 = .bool false := hon
          have hgb := (f34.1 trivial : σ 34 = _).symm.trans hgd
          simp only [Value.bool.injEq] at hgb
          try simp only [decide_eq_true_eq, decide_eq_false_iff_not, Bool.or_eq_true, Bool.and_eq_true, Bool.or_eq_false_iff, Bool.and_eq_false_iff, Bool.not_eq_true', Bool.not_eq_false', Int.not_lt, Int.not_le, ne_eq, Decidable.not_not] at hgb
          exact OpOK.sub (r := [(59, _), (0, _), (1, _), (5, _), (6, _), (7, _)]) ⟨congrArg some e35, rfl, rfl, rfl, rfl, rfl, trivial⟩ (by
            exact OpOK.eq (r_load sc33 rfl (hB5.cell rfl)))
          ), (fun _ _ _ _ _ _ h => h), (FreeR.no _), ?_⟩
      refine ⟨_, false, (fun σ ι w1 hg hd hon => by
          have f34 := hd 34 (by decide) _ rfl
          have e34 : σ 34 = _ := f34.1 trivial
          have hgd : σ 34 = .bool false := hon
          have hgb := (f34.1 trivial : σ 34 = _).symm.trans hgd
          simp only [Value.bool.injEq] at hgb
          try simp only [decide_eq_true_eq, decide_eq_false_iff_not, Bool.or_eq_true, Bool.and_eq_true, Bool.or_eq_false_iff, Bool.and_eq_false_iff, Bool.not_eq_true', Bool.not_eq_false', Int.not_lt, Int.not_le, ne_eq, Decidable.not_not] at hgb
          exact OpOK.sub (r := [(0, _), (1, _), (5, _), (6, _), (7, _)]) ⟨rfl, rfl, rfl, rfl, rfl, trivial⟩ (by
            exact OpOK.eq (r_idxA Try.underlying56 sz33 rfl rfl (i := 1) rfl (by omega)))
          ), (fun _ _ _ _ _ _ h => h), (FreeR.no _), ?_⟩
      refine ⟨_, false, (fun σ ι w1 hg hd hon => by
          have hN := hN.ofGr ((Gr.refl _).drew.trans hg)
          have hB5 := hB5.gr ((Gr.refl _).drew.trans hg)
          have f37 := hd 37 (by decide) _ rfl
          have f34 := hd 34 (by decide) _ rfl
          have e37 : σ 37 = _ := f37.1 hon
          have e34 : σ 34 = _ := f34.1 trivial
          have hgd : σ 34 = .bool false := hon
          have hgb := (f34.1 trivial : σ 34 = _).symm.trans hgd
          simp only [Value.bool.injEq] at hgb
          try simp only [decide_eq_true_eq, decide_eq_false_iff_not, Bool.or_eq_true, Bool.and_eq_true, Bool.or_eq_false_iff, Bool.and_eq_false_iff, Bool.not_eq_true', Bool.not_eq_false', Int.not_lt, Int.not_le, ne_eq, Decidable.not_not] at hgb
          exact OpOK.sub (r := [(61, _), (0, _), (1, _), (5, _), (6, _), (7, _)]) ⟨congrArg some e37, rfl, rfl, rfl, rfl, rfl, trivial⟩ (by
            exact OpOK.eq (r_load sc33 rfl (hB5.cell rfl)))
          ), (fun _ _ _ _ _ _ h => h), (FreeR.no _), ?_⟩
      refine ⟨_, true, (fun σ ι w1 hg hd hon => by
          have hN := hN.ofGr ((Gr.refl _).drew.trans hg)
          have hB5 := hB5.gr ((Gr.refl _).drew.trans hg)
          have f36 := hd 36 (by decide) _ rfl
          have f38 := hd 38 (by decide) _ rfl
          have f34 := hd 34 (by decide) _ rfl
          have e36 : σ 36 = _ := f36.1 hon
          have e38 : σ 38 = _ := f38.1 hon
          have e34 : σ 34 = _ := f34.1 trivial
          have hgd : σ 34 = .bool false := hon
          have hgb := (f34.1 trivial : σ 34 = _).symm.trans hgd
          simp only [Value.bool.injEq] at hgb
          try simp only [decide_eq_true_eq, decide_eq_false_iff_not, Bool.or_eq_true, Bool.and_eq_true, Bool.or_eq_false_iff, Bool.and_eq_false_iff, Bool.not_eq_true', Bool.not_eq_false', Int.not_lt, Int.not_le, ne_eq, Decidable.not_not] at hgb
          skip
          exact CallOK.sub (r := [(60, _), (62, _), (0, _), (1, _), (5, _), (6, _), (7, _)]) ⟨congrArg some e36, congrArg some e38, rfl, rfl, rfl, rfl, rfl, trivial⟩ (by
            exact CallOK.V (enters_of rfl rfl hb21) (br_join hN.sat))
          ), (fun _ _ _ _ _ _ h => h), (fun _ _ _ _ _ _ h => h), ?_⟩
      refine ⟨_, false, (fun σ ι w1 hg hd hon => by
          have f34 := hd 34 (by decide) _ rfl
          have e34 : σ 34 = _ := f34.1 trivial
          have hgd : σ 34 = .bool false := hon
          have hgb := (f34.1 trivial : σ 34 = _).symm.trans hgd
          simp only [Value.bool.injEq] at hgb
          try simp only [decide_eq_true_eq, decide_eq_false_iff_not, Bool.or_eq_true, Bool.and_eq_true, Bool.or_eq_false_iff, Bool.and_eq_false_iff, Bool.not_eq_true', Bool.not_eq_false', Int.not_lt, Int.not_le, ne_eq, Decidable.not_not] at hgb
          exact OpOK.sub (r := [(0, _), (1, _), (5, _), (6, _), (7, _)]) ⟨rfl, rfl, rfl, rfl, rfl, trivial⟩ (by
            exact OpOK.eq (r_idxA Try.underlying56 sz33 rfl rfl (i := 0) rfl (by omega)))
          ), (fun _ _ _ _ _ _ h => h), (FreeR.no _), ?_⟩
      refine ⟨_, false, (fun σ ι w1 hg hd hon => by
          have hN := hN.ofGr ((Gr.refl _).drew.trans hg)
          have hB5 := hB5.gr ((Gr.refl _).drew.trans hg)
          have f40 := hd 40 (by decide) _ rfl
          have f34 := hd 34 (by decide) _ rfl
          have e40 : σ 40 = _ := f40.1 hon
          have e34 : σ 34 = _ := f34.1 trivial
          have hgd : σ 34 = .bool false := hon
          have hgb := (f34.1 trivial : σ 34 = _).symm.trans hgd
          simp only [Value.bool.injEq] at hgb
          try simp only [decide_eq_true_eq, decide_eq_false_iff_not, Bool.or_eq_true, Bool.and_eq_true, Bool.or_eq_false_iff, Bool.and_eq_false_iff, Bool.not_eq_true', Bool.not_eq_false', Int.not_lt, Int.not_le, ne_eq, Decidable.not_not] at hgb
          exact OpOK.sub (r := [(64, _), (0, _), (1, _), (5, _), (6, _), (7, _)]) ⟨congrArg some e40, rfl, rfl, rfl, rfl, rfl, trivial⟩ (by
            exact OpOK.eq (r_load sc33 rfl (hB5.cell rfl)))
          ), (fun _ _ _ _ _ _ h => h), (FreeR.no _), ?_⟩
      refine ⟨_, false, (fun σ ι w1 hg hd hon => by
          have f34 := hd 34 (by decide) _ rfl
          have e34 : σ 34 = _ := f34.1 trivial
          have hgd : σ 34 = .bool false := hon
          have hgb := (f34.1 trivial : σ 34 = _).symm.trans hgd
          simp only [Value.bool.injEq] at hgb
          try simp only [decide_eq_true_eq, decide_eq_false_iff_not, Bool.or_eq_true, Bool.and_eq_true, Bool.or_eq_false_iff, Bool.and_eq_false_iff, Bool.not_eq_true', Bool.not_eq_false', Int.not_lt, Int.not_le, ne_eq, Decidable.not_not] at hgb
          exact OpOK.sub (r := [(0, _), (1, _), (5, _), (6, _), (7, _)]) ⟨rfl, rfl, rfl, rfl, rfl, trivial⟩ (by
            exact OpOK.eq (r_idxA Try.underlying56 sz33 rfl rfl (i := 2) rfl (by omega)))
          ), (fun _ _ _ _ _ _ h => h), (FreeR.no _), ?_⟩
      refine ⟨_, false, (fun σ ι w1 hg hd hon => by
          have hN := hN.ofGr ((Gr.refl _).drew.trans hg)
          have hB5 := hB5.gr ((Gr.refl _).drew.trans hg)
          have f42 := hd 42 (by decide) _ rfl
          have f34 := hd 34 (by decide) _ rfl
          have e42 : σ 42 = _ := f42.1 hon
          have e34 : σ 34 = _ := f34.1 trivial
          have hgd : σ 34 = .bool false := hon
          have hgb := (f34.1 trivial : σ 34 = _).symm.trans hgd
          simp only [Value.bool.injEq] at hgb
          try simp only [decide_eq_true_eq, decide_eq_false_iff_not, Bool.or_eq_true, Bool.and_eq_true, Bool.or_eq_false_iff, Bool.and_eq_false_iff, Bool.not_eq_true', Bool.not_eq_false', Int.not_lt, Int.not_le, ne_eq, Decidable.not_not] at hgb
          exact OpOK.sub (r := [(66, _), (0, _), (1, _), (5, _), (6, _), (7, _)]) ⟨congrArg some e42, rfl, rfl, rfl, rfl, rfl, trivial⟩ (by
            exact OpOK.eq (r_load sc33 rfl (hB5.cell rfl)))
          ), (fun _ _ _ _ _ _ h => h), (FreeR.no _), ?_⟩
      refine ⟨_, true, (fun σ ι w1 hg hd hon => by
          have hN := hN.ofGr ((Gr.refl _).drew.trans hg)
          have hB5 := hB5.gr ((Gr.refl _).drew.trans hg)
          have f41 := hd 41 (by decide) _ rfl
          have f43 := hd 43 (by decide) _ rfl
          have f34 := hd 34 (by decide) _ rfl
          have e41 : σ 41 = _ := f41.1 hon
          have e43 : σ 43 = _ := f43.1 hon
          have e34 : σ 34 = _ := f34.1 trivial
          have hgd : σ 34 = .bool false := hon
          have hgb := (f34.1 trivial : σ 34 = _).symm.trans hgd
          simp only [Value.bool.injEq] at hgb
          try simp only [decide_eq_true_eq, decide_eq_false_iff_not, Bool.or_eq_true, Bool.and_eq_true, Bool.or_eq_false_iff, Bool.and_eq_false_iff, Bool.not_eq_true', Bool.not_eq_false', Int.not_lt, Int.not_le, ne_eq, Decidable.not_not] at hgb
          skip
          exact CallOK.sub (r := [(65, _), (67, _), (0, _), (1, _), (5, _), (6, _), (7, _)]) ⟨congrArg some e41, congrArg some e43, rfl, rfl, rfl, rfl, rfl, trivial⟩ (by
            exact CallOK.V (enters_of rfl rfl hb21) (br_join hN.sat))
          ), (fun _ _ _ _ _ _ h => h), (fun _ _ _ _ _ _ h => h), ?_⟩
      refine ⟨_, false, (fun σ ι w1 hg hd hon => by
          have f39 := hd 39 (by decide) _ rfl
          have f44 := hd 44 (by decide) _ rfl
          have f34 := hd 34 (by decide) _ rfl
          have e39 : σ 39 = _ := f39.1 hon
          have e44 : σ 44 = _ := f44.1 hon
          have e34 : σ 34 = _ := f34.1 trivial
          have hgd : σ 34 = .bool false := hon
          have hgb := (f34.1 trivial : σ 34 = _).symm.trans hgd
          simp only [Value.bool.injEq] at hgb
          try simp only [decide_eq_true_eq, decide_eq_false_iff_not, Bool.or_eq_true, Bool.and_eq_true, Bool.or_eq_false_iff, Bool.and_eq_false_iff, Bool.not_eq_true', Bool.not_eq_false', Int.not_lt, Int.not_le, ne_eq, Decidable.not_not] at hgb
          exact OpOK.sub (r := [(63, _), (68, _), (0, _), (1, _), (5, _), (6, _), (7, _)]) ⟨congrArg some e39, congrArg some e44, rfl, rfl, rfl, rfl, rfl, trivial⟩ (by
            exact OpOK.eq (r_eql rfl rfl))
          ), (fun _ _ _ _ _ _ h => h), (FreeR.no _), ?_⟩
      refine ⟨_, false, (fun σ ι w1 hg hd hon => by
          have f34 := hd 34 (by decide) _ rfl
          have e34 : σ 34 = _ := f34.1 trivial
          have hgd : σ 34 = .bool false := hon
          have hgb := (f34.1 trivial : σ 34 = _).symm.trans hgd
          simp only [Value.bool.injEq] at hgb
          try simp only [decide_eq_true_eq, decide_eq_false_iff_not, Bool.or_eq_true, Bool.and_eq_true, Bool.or_eq_false_iff, Bool.and_eq_false_iff, Bool.not_eq_true', Bool.not_eq_false', Int.not_lt, Int.not_le, ne_eq, Decidable.not_not] at hgb
          exact OpOK.sub (r := [(0, _), (1, _), (5, _), (6, _), (7, _)]) ⟨rfl, rfl, rfl, rfl, rfl, trivial⟩ (by
            exact OpOK.eq (r_idxA Try.underlying56 sz33 rfl rfl (i := 1) rfl (by omega)))
          ), (fun _ _ _ _ _ _ h => h), (FreeR.no _), ?_⟩
      refine ⟨_, false, (fun σ ι w1 hg hd hon => by
          have hN := hN.ofGr ((Gr.refl _).drew.trans hg)
          have hB5 := hB5.gr ((Gr.refl _).drew.trans hg)
          have f46 := hd 46 (by decide) _ rfl
          have f34 := hd 34 (by decide) _ rfl
          have e46 : σ 46 = _ := f46.1 hon
          have e34 : σ 34 = _ := f34.1 trivial
          have hgd : σ 34 = .bool false := hon
          have hgb := (f34.1 trivial : σ 34 = _).symm.trans hgd
          simp only [Value.bool.injEq] at hgb
          try simp only [decide_eq_true_eq, decide_eq_false_iff_not, Bool.or_eq_true, Bool.and_eq_true, Bool.or_eq_false_iff, Bool.and_eq_false_iff, Bool.not_eq_true', Bool.not_eq_false', Int.not_lt, Int.not_le, ne_eq, Decidable.not_not] at hgb
          exact OpOK.sub (r := [(70, _), (0, _), (1, _), (5, _), (6, _), (7, _)]) ⟨congrArg some e46, rfl, rfl, rfl, rfl, rfl, trivial⟩ (by
            exact OpOK.eq (r_load sc33 rfl (hB5.cell rfl)))
          ), (fun _ _ _ _ _ _ h => h), (FreeR.no _), ?_⟩
      refine ⟨_, false, (fun σ ι w1 hg hd hon => by
          have f34 := hd 34 (by decide) _ rfl
          have e34 : σ 34 = _ := f34.1 trivial
          have hgd : σ 34 = .bool false := hon
          have hgb := (f34.1 trivial : σ 34 = _).symm.trans hgd
          simp only [Value.bool.injEq] at hgb
          try simp only [decide_eq_true_eq, decide_eq_false_iff_not, Bool.or_eq_true, Bool.and_eq_true, Bool.or_eq_false_iff, Bool.and_eq_false_iff, Bool.not_eq_true', Bool.not_eq_false', Int.not_lt, Int.not_le, ne_eq, Decidable.not_not] at hgb
          exact OpOK.sub (r := [(0, _), (1, _), (5, _), (6, _), (7, _)]) ⟨rfl, rfl, rfl, rfl, rfl, trivial⟩ (by
            exact OpOK.eq (r_idxA Try.underlying56 sz33 rfl rfl (i := 2) rfl (by omega)))
          ), (fun _ _ _ _ _ _ h => h), (FreeR.no _), ?_⟩
      refine ⟨_, false, (fun σ ι w1 hg hd hon => by
          have hN := hN.ofGr ((Gr.refl _).drew.trans hg)
          have hB5 := hB5.gr ((Gr.refl _).drew.trans hg)
          have f48 := hd 48 (by decide) _ rfl
          have f34 := hd 34 (by decide) _ rfl
          have e48 : σ 48 = _ := f48.1 hon
          have e34 : σ 34 = _ := f34.1 trivial
          have hgd : σ 34 = .bool false := hon
          have hgb := (f34.1 trivial : σ 34 = _).symm.trans hgd
          simp only [Value.bool.injEq] at hgb
          try simp only [decide_eq_true_eq, decide_eq_false_iff_not, Bool.or_eq_true, Bool.and_eq_true, Bool.or_eq_false_iff, Bool.and_eq_false_iff, Bool.not_eq_true', Bool.not_eq_false', Int.not_lt, Int.not_le, ne_eq, Decidable.not_not] at hgb
          exact OpOK.sub (r := [(72, _), (0, _), (1, _), (5, _), (6, _), (7, _)]) ⟨congrArg some e48, rfl, rfl, rfl, rfl, rfl, trivial⟩ (by
            exact OpOK.eq (r_load sc33 rfl (hB5.cell rfl)))
          ), (fun _ _ _ _ _ _ h => h), (FreeR.no _), ?_⟩
      refine ⟨_, false, (fun σ ι w1 hg hd hon => by
          have f47 := hd 47 (by decide) _ rfl
          have f49 := hd 49 (by decide) _ rfl
          have f34 := hd 34 (by decide) _ rfl
          have e47 : σ 47 = _ := f47.1 hon
          have e49 : σ 49 = _ := f49.1 hon
          have e34 : σ 34 = _ := f34.1 trivial
          have hgd : σ 34 = .bool false := hon
          have hgb := (f34.1 trivial : σ 34 = _).symm.trans hgd
          simp only [Value.bool.injEq] at hgb
          try simp only [decide_eq_true_eq, decide_eq_false_iff_not, Bool.or_eq_true, Bool.and_eq_true, Bool.or_eq_false_iff, Bool.and_eq_false_iff, Bool.not_eq_true', Bool.not_eq_false', Int.not_lt, Int.not_le, ne_eq, Decidable.not_not] at hgb
          exact OpOK.sub (r := [(71, _), (73, _), (0, _), (1, _), (5, _), (6, _), (7, _)]) ⟨congrArg some e47, congrArg some e49, rfl, rfl, rfl, rfl, rfl, trivial⟩ (by
            exact OpOK.eq (r_eql rfl rfl))
          ), (fun _ _ _ _ _ _ h => h), (FreeR.no _), ?_⟩
      refine ⟨_, false, (fun σ ι w1 hg hd hon => by
          have f45 := hd 45 (by decide) _ rfl
          have f50 := hd 50 (by decide) _ rfl
          have f34 := hd 34 (by decide) _ rfl
          have e45 : σ 45 = _ := f45.1 hon
          have e50 : σ 50 = _ := f50.1 hon
          have e34 : σ 34 = _ := f34.1 trivial
          have hgd : σ 34 = .bool false := hon
          have hgb := (f34.1 trivial : σ 34 = _).symm.trans hgd
          simp only [Value.bool.injEq] at hgb
          try simp only [decide_eq_true_eq, decide_eq_false_iff_not, Bool.or_eq_true, Bool.and_eq_true, Bool.or_eq_false_iff, Bool.and_eq_false_iff, Bool.not_eq_true', Bool.not_eq_false', Int.not_lt, Int.not_le, ne_eq, Decidable.not_not] at hgb
          exact OpOK.sub (r := [(69, _), (74, _), (0, _), (1, _), (5, _), (6, _), (7, _)]) ⟨congrArg some e45, congrArg some e50, rfl, rfl, rfl, rfl, rfl, trivial⟩ (by
            exact OpOK.eq (r_neb Try.underlying4 rfl rfl))
          ), (fun _ _ _ _ _ _ h => h), (FreeR.no _), ?_⟩
      refine ⟨_, false, (fun σ ι w1 hg hd hon => by
          have f34 := hd 34 (by decide) _ rfl
          have f51 := hd 51 (by decide) _ rfl
          have e34 : σ 34 = _ := f34.1 trivial
          have ec : σ 34 = _ := f34.1 trivial
          exact OpOK.id (by refine OpOK.or (dc := 58) (dy := 75) (kc := σ 34) (ky := σ 51) ?_ ?_ ec (fun hb => f51.1 (by show σ 34 = _; rw [ec]; exact congrArg Value.bool hb)) <;> rfl)
          ), (fun _ _ _ _ _ _ h => h), (FreeR.no _), ?_⟩
      intro σ ι a15 w4 hgw4 H24 hd hap
      skip
      have hN0 := hN
      have hN := hN.ofGr ((Gr.refl _).drew.trans hgw4)
      replace hB5 := hB5.gr ((Gr.refl _).drew.trans hgw4)
      have e52 : σ 52 = _ := (hd 52 (by decide) _ rfl).1 trivial
      replace H24 := H24.sub (r := [(76, _), (0, _), (1, _), (5, _), (6, _), (7, _)]) ⟨congrArg some e52, rfl, rfl, rfl, rfl, rfl, trivial⟩
      clear hd
      replace H24 := H24.known (t := 76) (b := false) rfl (by simp [dtag_keys hz0 hz1, djoin_keys hz0 hz2, djoin_keys2 hz1 hz2])
      clear hap
      refine wl_end ?_
      refine th_n ?_
      refine w_ff H24 rfl rfl ?_
      refine wpIn_skip ?_
      refine th_n ?_
      refine wpIn_seq ?_
      refine wpIn_seq ?_
      refine w_reg ?_
      refine wl1 H24 (r_move rfl) rfl rfl rfl rfl fun a16 H25 => ?_
      clear H24 a15
      refine wl1 H25 (r_len Try.underlying47 rfl) rfl rfl rfl rfl fun a17 H26 => ?_
      clear H25 a16
      refine wl1 H26 (r_gtr rfl rfl) rfl rfl rfl rfl fun a18 H27 => ?_
      clear H26 a17
      refine wl_end ?_
      refine th_n ?_
      first | refine w_if H27 rfl (fun hc79 => ?_) (fun hc79 => ?_) | refine w_cond H27 rfl (fun hc79 => ?_) (fun hc79 => ?_)
      ·
        try simp only [decide_eq_true_eq, decide_eq_false_iff_not, Bool.or_eq_true, Bool.and_eq_true, Bool.or_eq_false_iff, Bool.and_eq_false_iff, Bool.not_eq_true', Bool.not_eq_false', Int.not_lt, Int.not_le, ne_eq, Decidable.not_not] at hc79
        obtain ⟨bA, oA, rfl⟩ := hA.form (by omega)
        refine wpIn_seq ?_
        refine w_reg ?_
        refine wl1 H27 (r_idxA Try.underlying56 sz33 rfl rfl (i := 3) rfl (by omega)) rfl rfl rfl rfl fun a19 H28 => ?_
        clear H27 a18
        refine wl1 H28 (r_load sc33 rfl (hB5.cell rfl)) rfl rfl rfl rfl fun a20 H29 => ?_
        clear H28 a19
        refine wl1 H29 (r_move rfl) rfl rfl rfl rfl fun a21 H30 => ?_
        clear H29 a20
        refine wl1 H30 (r_len Try.underlying47 rfl) rfl rfl rfl rfl fun a22 H31 => ?_
        clear H30 a21
        refine wl1 H31 (r_convk Try.underlying3 Try.underlying33 rfl (by simp only [InK]; omega)) rfl rfl rfl rfl fun a23 H32 => ?_
        clear H31 a22
        refine wl1 H32 (r_remk rfl rfl (by omega) (by omega)) rfl rfl rfl rfl fun a24 H33 => ?_
        clear H32 a23
        obtain ⟨i, hi0⟩ : ∃ n : Nat, z3 % (l.length : Int) = (n : Int) := ⟨(z3 % (l.length : Int)).toNat, by have := Int.emod_nonneg z3 (show (l.length : Int) ≠ 0 by omega); omega⟩
        have hi : i < l.length := by have := Int.emod_lt_of_pos z3 (show (0 : Int) < (l.length : Int) by omega); omega
        rw [hi0] at H33
        first | refine wl1 H33 (r_convk Try.underlying33 Try.underlying3 rfl (by simp only [InK]; omega)) rfl rfl rfl rfl fun a25 H34 => ?_ | refine wl1 H33 (r_conv Try.underlying33 Try.underlying3 rfl) rfl rfl rfl rfl fun a25 H34 => ?_
        clear H33 a24
        refine wl1 H34 (r_assign rfl) rfl rfl rfl rfl fun a26 H35 => ?_
        clear H34 a25
        refine wl_end ?_
        refine th_n ?_
        refine wpIn_seq ?_
        refine w_reg ?_
        obtain ⟨B9, hBw⟩ : ∃ B, B = (w4).heap.size := ⟨_, rfl⟩
        have hlt5b := hB5.lt
        have hwB : w.heap.size ≤ B9 := by rw [hBw]; exact hN.gr.size
        have hszB : B9 ≤ (w4).heap.size := Nat.le_of_eq hBw
        refine s_lit1 (cs := []) H35 Try.underlying47 sz3 zv3 rfl rfl rfl (by simp [Value.oneCell']) rfl hN fun w5 l87 K5 hKl87 hlel87 hN nw5 hgel87 a27 H36 => ?_
        clear H35 a26
        replace hA := hA.up nw5.le
        replace hE0 := hE0.up nw5.le
        replace hB5 := hB5.next nw5
        replace hszB := Nat.le_trans hszB nw5.gr.size
        refine wl1 H36 (r_move rfl) rfl rfl rfl rfl fun a28 H37 => ?_
        clear H36 a27
        refine s_app (d := kInt .i64) (B := B9) H37 rfl rfl Try.underlying47 nf3 rfl (by decide) (by decide) rfl hN (.inr ⟨_, rfl, Els.nil _ _ _⟩) hA rfl hwB hszB (by simp; omega) fun vw6 w6 hO hOO hOO2 kw6 hN a29 H38 => ?_
        clear H37 a28
        replace hB5 := hB5.keep kw6 (by omega)
        replace hszB := Nat.le_trans hszB kw6.size
        obtain ⟨go, co, cs, rest, rfl, hco, _, hgo, hR, hBo⟩ := (hOO (by omega)).box (by simp; omega)
        clear hO hOO hOO2
        obtain ⟨rfl, _⟩ := hR.ints
        clear hR
        rw [List.nil_append] at hBo H38 hco
        refine wl1 H38 (r_assign rfl) rfl rfl rfl rfl fun a30 H39 => ?_
        clear H38 a29
        refine wl_end ?_
        refine th_n ?_
        refine wpIn_seq ?_
        refine w_reg ?_
        refine wl1 H39 (r_move rfl) rfl rfl rfl rfl fun a31 H40 => ?_
        clear H39 a30
        refine wl1 H40 (r_move rfl) rfl rfl rfl rfl fun a32 H41 => ?_
        clear H40 a31
        refine wl1 H41 (r_idxA Try.underlying56 sz33 rfl rfl (i := 0) rfl (by omega)) rfl rfl rfl rfl fun a33 H42 => ?_
        clear H41 a32
        refine wl1 H42 (r_load sc33 rfl (hB5.cell rfl)) rfl rfl rfl rfl fun a34 H43 => ?_
        clear H42 a33
        refine wl1 H43 (r_conv Try.underlying33 Try.underlying3 rfl) rfl rfl rfl rfl fun a35 H44 => ?_
        clear H43 a34
        obtain ⟨x0, hx0⟩ : ∃ x, x = IntKind.i64.wrap z0 := ⟨_, rfl⟩
        have hxk : InK .i64 x0 := by rw [hx0]; exact inK_wrap _ _
        rw [← hx0] at H44
        refine wl1 H44 (r_idx Try.underlying47 sz3 rfl rfl (i := i) rfl (by omega)) rfl rfl rfl rfl fun a36 H45 => ?_
        clear H44 a35
        refine s_store H45 sz3 rfl rfl rfl hN hBo (by simp; omega) (by omega) fun w7 hN hBo ew7 H46 => ?_
        clear H45
        replace hB5 := hB5.otherE ew7 (by omega)
        replace hszB := sz_setB ew7 hszB
        rw [own_set hi] at hBo
        clear ew7
        refine wl_end ?_
        refine th_n ?_
        refine wpIn_seq ?_
        obtain ⟨Kz7, hN, hEo, hleKz7, hsmKz7⟩ := hN.freezeRow hBo (Row.nums (own_setIn hA.inK hxk)) (by omega) (by simp; omega)
        replace hB5 := hB5.same (hsmKz7 _ (by omega))
        replace hA := hA.up hleKz7
        replace hE0 := hE0.up hleKz7
        have hS0 := hN.sat
        have hNsz12 := hN.gr.size
        refine w_drawE (m := 36) (l0 := [(0, _), (1, _), (5, _), (6, _), (7, _), (8, _), (9, _)]) hfol H46 ⟨rfl, rfl, rfl, rfl, rfl, rfl, rfl, trivial⟩ (by kernel_rfl) ?_
        refine ⟨_, false, (fun σ ι w1 hg hd hon => by
            exact OpOK.sub (r := [(0, _), (1, _), (5, _), (6, _), (7, _), (8, _), (9, _)]) ⟨rfl, rfl, rfl, rfl, rfl, rfl, rfl, trivial⟩ (by
              exact OpOK.eq (r_move rfl))
            ), (fun _ _ _ _ _ _ h => h), (FreeR.no _), ?_⟩
        refine ⟨_, true, (fun σ ι w1 hg hd hon => by
            have hN := hN.ofGr ((Gr.refl _).drew.trans hg)
            have hB5 := hB5.gr ((Gr.refl _).drew.trans hg)
            have f0 := hd 0 (by decide) _ rfl
            have e0 : σ 0 = _ := f0.1 trivial
            skip
            exact CallOK.sub (r := [(96, _), (0, _), (1, _), (5, _), (6, _), (7, _), (8, _), (9, _)]) ⟨congrArg some e0, rfl, rfl, rfl, rfl, rfl, rfl, rfl, trivial⟩ (by
              exact CallOK.V (enters_of rfl rfl hb17) (words_ret hN.sat hA))
            ), (fun _ _ _ _ _ _ h => h), (fun _ _ _ _ _ _ h => h), ?_⟩
        refine ⟨_, false, (fun σ ι w1 hg hd hon => by
            exact OpOK.sub (r := [(0, _), (1, _), (5, _), (6, _), (7, _), (8, _), (9, _)]) ⟨rfl, rfl, rfl, rfl, rfl, rfl, rfl, trivial⟩ (by
              exact OpOK.eq (r_move rfl))
            ), (fun _ _ _ _ _ _ h => h), (FreeR.no _), ?_⟩
        refine ⟨_, true, (fun σ ι w1 hg hd hon => by
            have hN := hN.ofGr ((Gr.refl _).drew.trans hg)
            have hB5 := hB5.gr ((Gr.refl _).drew.trans hg)
            have f2 := hd 2 (by decide) _ rfl
            have e2 : σ 2 = _ := f2.1 trivial
            skip
            exact CallOK.sub (r := [(98, _), (0, _), (1, _), (5, _), (6, _), (7, _), (8, _), (9, _)]) ⟨congrArg some e2, rfl, rfl, rfl, rfl, rfl, rfl, rfl, trivial⟩ (by
              exact CallOK.V (enters_of rfl rfl hb17) (words_ret' (l := l.set i x0) hN.sat hEo (by simp)))
            ), (fun _ _ _ _ _ _ h => h), (fun _ _ _ _ _ _ h => h), ?_⟩
        refine ⟨_, false, (fun σ ι w1 hg hd hon => by
            have f1 := hd 1 (by decide) _ rfl
            have f3 := hd 3 (by decide) _ rfl
            have e1 : σ 1 = _ := f1.1 trivial
            have e3 : σ 3 = _ := f3.1 trivial
            exact OpOK.sub (r := [(97, _), (99, _), (0, _), (1, _), (5, _), (6, _), (7, _), (8, _), (9, _)]) ⟨congrArg some e1, congrArg some e3, rfl, rfl, rfl, rfl, rfl, rfl, rfl, trivial⟩ (by
              exact OpOK.eq (r_eql rfl rfl))
            ), (fun _ _ _ _ _ _ h => h), (FreeR.no _), ?_⟩
        refine ⟨_, false, (fun σ ι w1 hg hd hon => by
            exact OpOK.sub (r := [(0, _), (1, _), (5, _), (6, _), (7, _), (8, _), (9, _)]) ⟨rfl, rfl, rfl, rfl, rfl, rfl, rfl, trivial⟩ (by
              exact OpOK.eq (r_move rfl))
            ), (fun _ _ _ _ _ _ h => h), (FreeR.no _), ?_⟩
        refine ⟨_, false, (fun σ ι w1 hg hd hon => by
            exact OpOK.sub (r := [(0, _), (1, _), (5, _), (6, _), (7, _), (8, _), (9, _)]) ⟨rfl, rfl, rfl, rfl, rfl, rfl, rfl, trivial⟩ (by
              exact OpOK.eq (r_move rfl))
            ), (fun _ _ _ _ _ _ h => h), (FreeR.no _), ?_⟩
        refine ⟨_, false, (fun σ ι w1 hg hd hon => by
            have f5 := hd 5 (by decide) _ rfl
            have f6 := hd 6 (by decide) _ rfl
            have e5 : σ 5 = _ := f5.1 trivial
            have e6 : σ 6 = _ := f6.1 trivial
            exact OpOK.sub (r := [(101, _), (102, _), (0, _), (1, _), (5, _), (6, _), (7, _), (8, _), (9, _)]) ⟨congrArg some e5, congrArg some e6, rfl, rfl, rfl, rfl, rfl, rfl, rfl, trivial⟩ (by
              exact OpOK.eq (r_idx Try.underlying47 sz3 rfl rfl (i := i) rfl (by omega)))
            ), (fun _ _ _ _ _ _ h => h), (FreeR.no _), ?_⟩
        refine ⟨_, false, (fun σ ι w1 hg hd hon => by
            have hN := hN.ofGr ((Gr.refl _).drew.trans hg)
            have hB5 := hB5.gr ((Gr.refl _).drew.trans hg)
            have f7 := hd 7 (by decide) _ rfl
            have e7 : σ 7 = _ := f7.1 trivial
            exact OpOK.sub (r := [(103, _), (0, _), (1, _), (5, _), (6, _), (7, _), (8, _), (9, _)]) ⟨congrArg some e7, rfl, rfl, rfl, rfl, rfl, rfl, rfl, trivial⟩ (by
              exact OpOK.eq (r_load sc3 rfl (hN.sat.cell (hA.num (j := i) hi).1)))
            ), (fun _ _ _ _ _ _ h => h), (FreeR.no _), ?_⟩
        refine ⟨_, false, (fun σ ι w1 hg hd hon => by
            exact OpOK.sub (r := [(0, _), (1, _), (5, _), (6, _), (7, _), (8, _), (9, _)]) ⟨rfl, rfl, rfl, rfl, rfl, rfl, rfl, trivial⟩ (by
              exact OpOK.eq (r_move rfl))
            ), (fun _ _ _ _ _ _ h => h), (FreeR.no _), ?_⟩
        refine ⟨_, false, (fun σ ι w1 hg hd hon => by
            exact OpOK.sub (r := [(0, _), (1, _), (5, _), (6, _), (7, _), (8, _), (9, _)]) ⟨rfl, rfl, rfl, rfl, rfl, rfl, rfl, trivial⟩ (by
              exact OpOK.eq (r_move rfl))
            ), (fun _ _ _ _ _ _ h => h), (FreeR.no _), ?_⟩
        refine ⟨_, false, (fun σ ι w1 hg hd hon => by
            have f9 := hd 9 (by decide) _ rfl
            have f10 := hd 10 (by decide) _ rfl
            have e9 : σ 9 = _ := f9.1 trivial
            have e10 : σ 10 = _ := f10.1 trivial
            exact OpOK.sub (r := [(105, _), (106, _), (0, _), (1, _), (5, _), (6, _), (7, _), (8, _), (9, _)]) ⟨congrArg some e9, congrArg some e10, rfl, rfl, rfl, rfl, rfl, rfl, rfl, trivial⟩ (by
              exact OpOK.eq (r_idx Try.underlying47 sz3 rfl rfl (i := i) rfl (by omega)))
            ), (fun _ _ _ _ _ _ h => h), (FreeR.no _), ?_⟩
        refine ⟨_, false, (fun σ ι w1 hg hd hon => by
            have hN := hN.ofGr ((Gr.refl _).drew.trans hg)
            have hB5 := hB5.gr ((Gr.refl _).drew.trans hg)
            have f11 := hd 11 (by decide) _ rfl
            have e11 : σ 11 = _ := f11.1 trivial
            exact OpOK.sub (r := [(107, _), (0, _), (1, _), (5, _), (6, _), (7, _), (8, _), (9, _)]) ⟨congrArg some e11, rfl, rfl, rfl, rfl, rfl, rfl, rfl, trivial⟩ (by
              exact OpOK.eq (r_load sc3 rfl (hN.sat.cell (hEo.num (j := i) (by simp; omega)).1)))
            ), (fun _ _ _ _ _ _ h => h), (FreeR.no _), ?_⟩
        refine ⟨_, false, (fun σ ι w1 hg hd hon => by
            have f8 := hd 8 (by decide) _ rfl
            have f12 := hd 12 (by decide) _ rfl
            have e8 : σ 8 = _ := f8.1 trivial
            have e12 : σ 12 = _ := f12.1 trivial
            exact OpOK.sub (r := [(104, _), (108, _), (0, _), (1, _), (5, _), (6, _), (7, _), (8, _), (9, _)]) ⟨congrArg some e8, congrArg some e12, rfl, rfl, rfl, rfl, rfl, rfl, rfl, trivial⟩ (by
              exact OpOK.eq (r_eql rfl rfl))
            ), (fun _ _ _ _ _ _ h => h), (FreeR.no _), ?_⟩
        refine ⟨_, false, (fun σ ι w1 hg hd hon => by
            have f4 := hd 4 (by decide) _ rfl
            have f13 := hd 13 (by decide) _ rfl
            have e4 : σ 4 = _ := f4.1 trivial
            have e13 : σ 13 = _ := f13.1 trivial
            exact OpOK.sub (r := [(100, _), (109, _), (0, _), (1, _), (5, _), (6, _), (7, _), (8, _), (9, _)]) ⟨congrArg some e4, congrArg some e13, rfl, rfl, rfl, rfl, rfl, rfl, rfl, trivial⟩ (by
              exact OpOK.eq (r_neb Try.underlying4 rfl rfl))
            ), (fun _ _ _ _ _ _ h => h), (FreeR.no _), ?_⟩
        refine ⟨_, false, (fun σ ι w1 hg hd hon => by
            have f14 := hd 14 (by decide) _ rfl
            have e14 : σ 14 = _ := f14.1 trivial
            exact OpOK.sub (r := [(110, _), (0, _), (1, _), (5, _), (6, _), (7, _), (8, _), (9, _)]) ⟨congrArg some e14, rfl, rfl, rfl, rfl, rfl, rfl, rfl, trivial⟩ (by
              exact OpOK.eq (r_move rfl))
            ), (fun _ _ _ _ _ _ h => h), (FreeR.no _), ?_⟩
        refine ⟨_, false, (fun σ ι w1 hg hd hon => by
            have f15 := hd 15 (by decide) _ rfl
            have e15 : σ 15 = _ := f15.1 trivial
            have hgd : σ 15 = .bool false := hon
            have hgb := (f15.1 trivial : σ 15 = _).symm.trans hgd
            simp only [Value.bool.injEq] at hgb
            try simp only [decide_eq_true_eq, decide_eq_false_iff_not, Bool.or_eq_true, Bool.and_eq_true, Bool.or_eq_false_iff, Bool.and_eq_false_iff, Bool.not_eq_true', Bool.not_eq_false', Int.not_lt, Int.not_le, ne_eq, Decidable.not_not] at hgb
            exact OpOK.sub (r := [(0, _), (1, _), (5, _), (6, _), (7, _), (8, _), (9, _)]) ⟨rfl, rfl, rfl, rfl, rfl, rfl, rfl, trivial⟩ (by
              exact OpOK.eq (r_idxA Try.underlying56 sz33 rfl rfl (i := 1) rfl (by omega)))
            ), (fun _ _ _ _ _ _ h => h), (FreeR.no _), ?_⟩
        refine ⟨_, false, (fun σ ι w1 hg hd hon => by
            have hN := hN.ofGr ((Gr.refl _).drew.trans hg)
            have hB5 := hB5.gr ((Gr.refl _).drew.trans hg)
            have f16 := hd 16 (by decide) _ rfl
            have f15 := hd 15 (by decide) _ rfl
            have e16 : σ 16 = _ := f16.1 hon
            have e15 : σ 15 = _ := f15.1 trivial
            have hgd : σ 15 = .bool false := hon
            have hgb := (f15.1 trivial : σ 15 = _).symm.trans hgd
            simp only [Value.bool.injEq] at hgb
            try simp only [decide_eq_true_eq, decide_eq_false_iff_not, Bool.or_eq_true, Bool.and_eq_true, Bool.or_eq_false_iff, Bool.and_eq_false_iff, Bool.not_eq_true', Bool.not_eq_false', Int.not_lt, Int.not_le, ne_eq, Decidable.not_not] at hgb
            exact OpOK.sub (r := [(112, _), (0, _), (1, _), (5, _), (6, _), (7, _), (8, _), (9, _)]) ⟨congrArg some e16, rfl, rfl, rfl, rfl, rfl, rfl, rfl, trivial⟩ (by
              exact OpOK.eq (r_load sc33 rfl (hB5.cell rfl)))
            ), (fun _ _ _ _ _ _ h => h), (FreeR.no _), ?_⟩
        refine ⟨_, false, (fun σ ι w1 hg hd hon => by
            have f15 := hd 15 (by decide) _ rfl
            have e15 : σ 15 = _ := f15.1 trivial
            have hgd : σ 15 = .bool false := hon
            have hgb := (f15.1 trivial : σ 15 = _).symm.trans hgd
            simp only [Value.bool.injEq] at hgb
            try simp only [decide_eq_true_eq, decide_eq_false_iff_not, Bool.or_eq_true, Bool.and_eq_true, Bool.or_eq_false_iff, Bool.and_eq_false_iff, Bool.not_eq_true', Bool.not_eq_false', Int.not_lt, Int.not_le, ne_eq, Decidable.not_not] at hgb
            exact OpOK.sub (r := [(0, _), (1, _), (5, _), (6, _), (7, _), (8, _), (9, _)]) ⟨rfl, rfl, rfl, rfl, rfl, rfl, rfl, trivial⟩ (by
              exact OpOK.eq (r_move rfl))
            ), (fun _ _ _ _ _ _ h => h), (FreeR.no _), ?_⟩
        refine ⟨_, true, (fun σ ι w1 hg hd hon => by
            have hN := hN.ofGr ((Gr.refl _).drew.trans hg)
            have hB5 := hB5.gr ((Gr.refl _).drew.trans hg)
            have f17 := hd 17 (by decide) _ rfl
            have f18 := hd 18 (by decide) _ rfl
            have f15 := hd 15 (by decide) _ rfl
            have e17 : σ 17 = _ := f17.1 hon
            have e18 : σ 18 = _ := f18.1 hon
            have e15 : σ 15 = _ := f15.1 trivial
            have hgd : σ 15 = .bool false := hon
            have hgb := (f15.1 trivial : σ 15 = _).symm.trans hgd
            simp only [Value.bool.injEq] at hgb
            try simp only [decide_eq_true_eq, decide_eq_false_iff_not, Bool.or_eq_true, Bool.and_eq_true, Bool.or_eq_false_iff, Bool.and_eq_false_iff, Bool.not_eq_true', Bool.not_eq_false', Int.not_lt, Int.not_le, ne_eq, Decidable.not_not] at hgb
            skip
            exact CallOK.sub (r := [(113, _), (114, _), (0, _), (1, _), (5, _), (6, _), (7, _), (8, _), (9, _)]) ⟨congrArg some e17, congrArg some e18, rfl, rfl, rfl, rfl, rfl, rfl, rfl, trivial⟩ (by
              exact CallOK.V (enters_of rfl rfl hb23) (tag_ret' hN.sat hA rfl))
            ), (fun _ _ _ _ _ _ h => h), (fun _ _ _ _ _ _ h => h), ?_⟩
        refine ⟨_, false, (fun σ ι w1 hg hd hon => by
            have f15 := hd 15 (by decide) _ rfl
            have e15 : σ 15 = _ := f15.1 trivial
            have hgd : σ 15 = .bool false := hon
            have hgb := (f15.1 trivial : σ 15 = _).symm.trans hgd
            simp only [Value.bool.injEq] at hgb
            try simp only [decide_eq_true_eq, decide_eq_false_iff_not, Bool.or_eq_true, Bool.and_eq_true, Bool.or_eq_false_iff, Bool.and_eq_false_iff, Bool.not_eq_true', Bool.not_eq_false', Int.not_lt, Int.not_le, ne_eq, Decidable.not_not] at hgb
            exact OpOK.sub (r := [(0, _), (1, _), (5, _), (6, _), (7, _), (8, _), (9, _)]) ⟨rfl, rfl, rfl, rfl, rfl, rfl, rfl, trivial⟩ (by
              exact OpOK.eq (r_idxA Try.underlying56 sz33 rfl rfl (i := 1) rfl (by omega)))
            ), (fun _ _ _ _ _ _ h => h), (FreeR.no _), ?_⟩
        refine ⟨_, false, (fun σ ι w1 hg hd hon => by
            have hN := hN.ofGr ((Gr.refl _).drew.trans hg)
            have hB5 := hB5.gr ((Gr.refl _).drew.trans hg)
            have f20 := hd 20 (by decide) _ rfl
            have f15 := hd 15 (by decide) _ rfl
            have e20 : σ 20 = _ := f20.1 hon
            have e15 : σ 15 = _ := f15.1 trivial
            have hgd : σ 15 = .bool false := hon
            have hgb := (f15.1 trivial : σ 15 = _).symm.trans hgd
            simp only [Value.bool.injEq] at hgb
            try simp only [decide_eq_true_eq, decide_eq_false_iff_not, Bool.or_eq_true, Bool.and_eq_true, Bool.or_eq_false_iff, Bool.and_eq_false_iff, Bool.not_eq_true', Bool.not_eq_false', Int.not_lt, Int.not_le, ne_eq, Decidable.not_not] at hgb
            exact OpOK.sub (r := [(116, _), (0, _), (1, _), (5, _), (6, _), (7, _), (8, _), (9, _)]) ⟨congrArg some e20, rfl, rfl, rfl, rfl, rfl, rfl, rfl, trivial⟩ (by
              exact OpOK.eq (r_load sc33 rfl (hB5.cell rfl)))
            ), (fun _ _ _ _ _ _ h => h), (FreeR.no _), ?_⟩
        refine ⟨_, false, (fun σ ι w1 hg hd hon => by
            have f15 := hd 15 (by decide) _ rfl
            have e15 : σ 15 = _ := f15.1 trivial
            have hgd : σ 15 = .bool false := hon
            have hgb := (f15.1 trivial : σ 15 = _).symm.trans hgd
            simp only [Value.bool.injEq] at hgb
            try simp only [decide_eq_true_eq, decide_eq_false_iff_not, Bool.or_eq_true, Bool.and_eq_true, Bool.or_eq_false_iff, Bool.and_eq_false_iff, Bool.not_eq_true', Bool.not_eq_false', Int.not_lt, Int.not_le, ne_eq, Decidable.not_not] at hgb
            exact OpOK.sub (r := [(0, _), (1, _), (5, _), (6, _), (7, _), (8, _), (9, _)]) ⟨rfl, rfl, rfl, rfl, rfl, rfl, rfl, trivial⟩ (by
              exact OpOK.eq (r_move rfl))
            ), (fun _ _ _ _ _ _ h => h), (FreeR.no _), ?_⟩
        refine ⟨_, true, (fun σ ι w1 hg hd hon => by
            have hN := hN.ofGr ((Gr.refl _).drew.trans hg)
            have hB5 := hB5.gr ((Gr.refl _).drew.trans hg)
            have f21 := hd 21 (by decide) _ rfl
            have f22 := hd 22 (by decide) _ rfl
            have f15 := hd 15 (by decide) _ rfl
            have e21 : σ 21 = _ := f21.1 hon
            have e22 : σ 22 = _ := f22.1 hon
            have e15 : σ 15 = _ := f15.1 trivial
            have hgd : σ 15 = .bool false := hon
            have hgb := (f15.1 trivial : σ 15 = _).symm.trans hgd
            simp only [Value.bool.injEq] at hgb
            try simp only [decide_eq_true_eq, decide_eq_false_iff_not, Bool.or_eq_true, Bool.and_eq_true, Bool.or_eq_false_iff, Bool.and_eq_false_iff, Bool.not_eq_true', Bool.not_eq_false', Int.not_lt, Int.not_le, ne_eq, Decidable.not_not] at hgb
            skip
            exact CallOK.sub (r := [(117, _), (118, _), (0, _), (1, _), (5, _), (6, _), (7, _), (8, _), (9, _)]) ⟨congrArg some e21, congrArg some e22, rfl, rfl, rfl, rfl, rfl, rfl, rfl, trivial⟩ (by
              exact CallOK.V (enters_of rfl rfl hb23) (tag_ret' (l := l.set i x0) hN.sat hEo (by simp)))
            ), (fun _ _ _ _ _ _ h => h), (fun _ _ _ _ _ _ h => h), ?_⟩
        refine ⟨_, false, (fun σ ι w1 hg hd hon => by
            have f19 := hd 19 (by decide) _ rfl
            have f23 := hd 23 (by decide) _ rfl
            have f15 := hd 15 (by decide) _ rfl
            have e19 : σ 19 = _ := f19.1 hon
            have e23 : σ 23 = _ := f23.1 hon
            have e15 : σ 15 = _ := f15.1 trivial
            have hgd : σ 15 = .bool false := hon
            have hgb := (f15.1 trivial : σ 15 = _).symm.trans hgd
            simp only [Value.bool.injEq] at hgb
            try simp only [decide_eq_true_eq, decide_eq_false_iff_not, Bool.or_eq_true, Bool.and_eq_true, Bool.or_eq_false_iff, Bool.and_eq_false_iff, Bool.not_eq_true', Bool.not_eq_false', Int.not_lt, Int.not_le, ne_eq, Decidable.not_not] at hgb
            exact OpOK.sub (r := [(115, _), (119, _), (0, _), (1, _), (5, _), (6, _), (7, _), (8, _), (9, _)]) ⟨congrArg some e19, congrArg some e23, rfl, rfl, rfl, rfl, rfl, rfl, rfl, trivial⟩ (by
              exact OpOK.eq (r_eql rfl rfl))
            ), (fun _ _ _ _ _ _ h => h), (FreeR.no _), ?_⟩
        refine ⟨_, false, (fun σ ι w1 hg hd hon => by
            have f15 := hd 15 (by decide) _ rfl
            have e15 : σ 15 = _ := f15.1 trivial
            have hgd : σ 15 = .bool false := hon
            have hgb := (f15.1 trivial : σ 15 = _).symm.trans hgd
            simp only [Value.bool.injEq] at hgb
            try simp only [decide_eq_true_eq, decide_eq_false_iff_not, Bool.or_eq_true, Bool.and_eq_true, Bool.or_eq_false_iff, Bool.and_eq_false_iff, Bool.not_eq_true', Bool.not_eq_false', Int.not_lt, Int.not_le, ne_eq, Decidable.not_not] at hgb
            exact OpOK.sub (r := [(0, _), (1, _), (5, _), (6, _), (7, _), (8, _), (9, _)]) ⟨rfl, rfl, rfl, rfl, rfl, rfl, rfl, trivial⟩ (by
              exact OpOK.eq (r_move rfl))
            ), (fun _ _ _ _ _ _ h => h), (FreeR.no _), ?_⟩
        refine ⟨_, false, (fun σ ι w1 hg hd hon => by
            have f15 := hd 15 (by decide) _ rfl
            have e15 : σ 15 = _ := f15.1 trivial
            have hgd : σ 15 = .bool false := hon
            have hgb := (f15.1 trivial : σ 15 = _).symm.trans hgd
            simp only [Value.bool.injEq] at hgb
            try simp only [decide_eq_true_eq, decide_eq_false_iff_not, Bool.or_eq_true, Bool.and_eq_true, Bool.or_eq_false_iff, Bool.and_eq_false_iff, Bool.not_eq_true', Bool.not_eq_false', Int.not_lt, Int.not_le, ne_eq, Decidable.not_not] at hgb
            exact OpOK.sub (r := [(0, _), (1, _), (5, _), (6, _), (7, _), (8, _), (9, _)]) ⟨rfl, rfl, rfl, rfl, rfl, rfl, rfl, trivial⟩ (by
              exact OpOK.eq (r_move rfl))
            ), (fun _ _ _ _ _ _ h => h), (FreeR.no _), ?_⟩
        refine ⟨_, false, (fun σ ι w1 hg hd hon => by
            have f25 := hd 25 (by decide) _ rfl
            have f26 := hd 26 (by decide) _ rfl
            have f15 := hd 15 (by decide) _ rfl
            have e25 : σ 25 = _ := f25.1 hon
            have e26 : σ 26 = _ := f26.1 hon
            have e15 : σ 15 = _ := f15.1 trivial
            have hgd : σ 15 = .bool false := hon
            have hgb := (f15.1 trivial : σ 15 = _).symm.trans hgd
            simp only [Value.bool.injEq] at hgb
            try simp only [decide_eq_true_eq, decide_eq_false_iff_not, Bool.or_eq_true, Bool.and_eq_true, Bool.or_eq_false_iff, Bool.and_eq_false_iff, Bool.not_eq_true', Bool.not_eq_false', Int.not_lt, Int.not_le, ne_eq, Decidable.not_not] at hgb
            exact OpOK.sub (r := [(121, _), (122, _), (0, _), (1, _), (5, _), (6, _), (7, _), (8, _), (9, _)]) ⟨congrArg some e25, congrArg some e26, rfl, rfl, rfl, rfl, rfl, rfl, rfl, trivial⟩ (by
              exact OpOK.eq (r_idx Try.underlying47 sz3 rfl rfl (i := i) rfl (by omega)))
            ), (fun _ _ _ _ _ _ h => h), (FreeR.no _), ?_⟩
        refine ⟨_, false, (fun σ ι w1 hg hd hon => by
            have hN := hN.ofGr ((Gr.refl _).drew.trans hg)
            have hB5 := hB5.gr ((Gr.refl _).drew.trans hg)
            have f27 := hd 27 (by decide) _ rfl
            have f15 := hd 15 (by decide) _ rfl
            have e27 : σ 27 = _ := f27.1 hon
            have e15 : σ 15 = _ := f15.1 trivial
            have hgd : σ 15 = .bool false := hon
            have hgb := (f15.1 trivial : σ 15 = _).symm.trans hgd
            simp only [Value.bool.injEq] at hgb
            try simp only [decide_eq_true_eq, decide_eq_false_iff_not, Bool.or_eq_true, Bool.and_eq_true, Bool.or_eq_false_iff, Bool.and_eq_false_iff, Bool.not_eq_true', Bool.not_eq_false', Int.not_lt, Int.not_le, ne_eq, Decidable.not_not] at hgb
            exact OpOK.sub (r := [(123, _), (0, _), (1, _), (5, _), (6, _), (7, _), (8, _), (9, _)]) ⟨congrArg some e27, rfl, rfl, rfl, rfl, rfl, rfl, rfl, trivial⟩ (by
              exact OpOK.eq (r_load sc3 rfl (hN.sat.cell (hA.num (j := i) hi).1)))
            ), (fun _ _ _ _ _ _ h => h), (FreeR.no _), ?_⟩
        refine ⟨_, false, (fun σ ι w1 hg hd hon => by
            have f15 := hd 15 (by decide) _ rfl
            have e15 : σ 15 = _ := f15.1 trivial
            have hgd : σ 15 = .bool false := hon
            have hgb := (f15.1 trivial : σ 15 = _).symm.trans hgd
            simp only [Value.bool.injEq] at hgb
            try simp only [decide_eq_true_eq, decide_eq_false_iff_not, Bool.or_eq_true, Bool.and_eq_true, Bool.or_eq_false_iff, Bool.and_eq_false_iff, Bool.not_eq_true', Bool.not_eq_false', Int.not_lt, Int.not_le, ne_eq, Decidable.not_not] at hgb
            exact OpOK.sub (r := [(0, _), (1, _), (5, _), (6, _), (7, _), (8, _), (9, _)]) ⟨rfl, rfl, rfl, rfl, rfl, rfl, rfl, trivial⟩ (by
              exact OpOK.eq (r_move rfl))
            ), (fun _ _ _ _ _ _ h => h), (FreeR.no _), ?_⟩
        refine ⟨_, false, (fun σ ι w1 hg hd hon => by
            have f15 := hd 15 (by decide) _ rfl
            have e15 : σ 15 = _ := f15.1 trivial
            have hgd : σ 15 = .bool false := hon
            have hgb := (f15.1 trivial : σ 15 = _).symm.trans hgd
            simp only [Value.bool.injEq] at hgb
            try simp only [decide_eq_true_eq, decide_eq_false_iff_not, Bool.or_eq_true, Bool.and_eq_true, Bool.or_eq_false_iff, Bool.and_eq_false_iff, Bool.not_eq_true', Bool.not_eq_false', Int.not_lt, Int.not_le, ne_eq, Decidable.not_not] at hgb
            exact OpOK.sub (r := [(0, _), (1, _), (5, _), (6, _), (7, _), (8, _), (9, _)]) ⟨rfl, rfl, rfl, rfl, rfl, rfl, rfl, trivial⟩ (by
              exact OpOK.eq (r_move rfl))
            ), (fun _ _ _ _ _ _ h => h), (FreeR.no _), ?_⟩
        refine ⟨_, false, (fun σ ι w1 hg hd hon => by
            have f29 := hd 29 (by decide) _ rfl
            have f30 := hd 30 (by decide) _ rfl
            have f15 := hd 15 (by decide) _ rfl
            have e29 : σ 29 = _ := f29.1 hon
            have e30 : σ 30 = _ := f30.1 hon
            have e15 : σ 15 = _ := f15.1 trivial
            have hgd : σ 15 = .bool false := hon
            have hgb := (f15.1 trivial : σ 15 = _).symm.trans hgd
            simp only [Value.bool.injEq] at hgb
            try simp only [decide_eq_true_eq, decide_eq_false_iff_not, Bool.or_eq_true, Bool.and_eq_true, Bool.or_eq_false_iff, Bool.and_eq_false_iff, Bool.not_eq_true', Bool.not_eq_false', Int.not_lt, Int.not_le, ne_eq, Decidable.not_not] at hgb
            exact OpOK.sub (r := [(125, _), (126, _), (0, _), (1, _), (5, _), (6, _), (7, _), (8, _), (9, _)]) ⟨congrArg some e29, congrArg some e30, rfl, rfl, rfl, rfl, rfl, rfl, rfl, trivial⟩ (by
              exact OpOK.eq (r_idx Try.underlying47 sz3 rfl rfl (i := i) rfl (by omega)))
            ), (fun _ _ _ _ _ _ h => h), (FreeR.no _), ?_⟩
        refine ⟨_, false, (fun σ ι w1 hg hd hon => by
            have hN := hN.ofGr ((Gr.refl _).drew.trans hg)
            have hB5 := hB5.gr ((Gr.refl _).drew.trans hg)
            have f31 := hd 31 (by decide) _ rfl
            have f15 := hd 15 (by decide) _ rfl
            have e31 : σ 31 = _ := f31.1 hon
            have e15 : σ 15 = _ := f15.1 trivial
            have hgd : σ 15 = .bool false := hon
            have hgb := (f15.1 trivial : σ 15 = _).symm.trans hgd
            simp only [Value.bool.injEq] at hgb
            try simp only [decide_eq_true_eq, decide_eq_false_iff_not, Bool.or_eq_true, Bool.and_eq_true, Bool.or_eq_false_iff, Bool.and_eq_false_iff, Bool.not_eq_true', Bool.not_eq_false', Int.not_lt, Int.not_le, ne_eq, Decidable.not_not] at hgb
            exact OpOK.sub (r := [(127, _), (0, _), (1, _), (5, _), (6, _), (7, _), (8, _), (9, _)]) ⟨congrArg some e31, rfl, rfl, rfl, rfl, rfl, rfl, rfl, trivial⟩ (by
              exact OpOK.eq (r_load sc3 rfl (hN.sat.cell (hEo.num (j := i) (by simp; omega)).1)))
            ), (fun _ _ _ _ _ _ h => h), (FreeR.no _), ?_⟩
        refine ⟨_, false, (fun σ ι w1 hg hd hon => by
            have f28 := hd 28 (by decide) _ rfl
            have f32 := hd 32 (by decide) _ rfl
            have f15 := hd 15 (by decide) _ rfl
            have e28 : σ 28 = _ := f28.1 hon
            have e32 : σ 32 = _ := f32.1 hon
            have e15 : σ 15 = _ := f15.1 trivial
            have hgd : σ 15 = .bool false := hon
            have hgb := (f15.1 trivial : σ 15 = _).symm.trans hgd
            simp only [Value.bool.injEq] at hgb
            try simp only [decide_eq_true_eq, decide_eq_false_iff_not, Bool.or_eq_true, Bool.and_eq_true, Bool.or_eq_false_iff, Bool.and_eq_false_iff, Bool.not_eq_true', Bool.not_eq_false', Int.not_lt, Int.not_le, ne_eq, Decidable.not_not] at hgb
            exact OpOK.sub (r := [(124, _), (128, _), (0, _), (1, _), (5, _), (6, _), (7, _), (8, _), (9, _)]) ⟨congrArg some e28, congrArg some e32, rfl, rfl, rfl, rfl, rfl, rfl, rfl, trivial⟩ (by
              exact OpOK.eq (r_eql rfl rfl))
            ), (fun _ _ _ _ _ _ h => h), (FreeR.no _), ?_⟩
        refine ⟨_, false, (fun σ ι w1 hg hd hon => by
            have f24 := hd 24 (by decide) _ rfl
            have f33 := hd 33 (by decide) _ rfl
            have f15 := hd 15 (by decide) _ rfl
            have e24 : σ 24 = _ := f24.1 hon
            have e33 : σ 33 = _ := f33.1 hon
            have e15 : σ 15 = _ := f15.1 trivial
            have hgd : σ 15 = .bool false := hon
            have hgb := (f15.1 trivial : σ 15 = _).symm.trans hgd
            simp only [Value.bool.injEq] at hgb
            try simp only [decide_eq_true_eq, decide_eq_false_iff_not, Bool.or_eq_true, Bool.and_eq_true, Bool.or_eq_false_iff, Bool.and_eq_false_iff, Bool.not_eq_true', Bool.not_eq_false', Int.not_lt, Int.not_le, ne_eq, Decidable.not_not] at hgb
            exact OpOK.sub (r := [(120, _), (129, _), (0, _), (1, _), (5, _), (6, _), (7, _), (8, _), (9, _)]) ⟨congrArg some e24, congrArg some e33, rfl, rfl, rfl, rfl, rfl, rfl, rfl, trivial⟩ (by
              exact OpOK.eq (r_neb Try.underlying4 rfl rfl))
            ), (fun _ _ _ _ _ _ h => h), (FreeR.no _), ?_⟩
        refine ⟨_, false, (fun σ ι w1 hg hd hon => by
            have f15 := hd 15 (by decide) _ rfl
            have f34 := hd 34 (by decide) _ rfl
            have e15 : σ 15 = _ := f15.1 trivial
            have ec : σ 15 = _ := f15.1 trivial
            exact OpOK.id (by refine OpOK.or (dc := 111) (dy := 130) (kc := σ 15) (ky := σ 34) ?_ ?_ ec (fun hb => f34.1 (by show σ 15 = _; rw [ec]; exact congrArg Value.bool hb)) <;> rfl)
            ), (fun _ _ _ _ _ _ h => h), (FreeR.no _), ?_⟩
        intro σ ι a37 w10 hgw10 H47 hd hap
        skip
        have hN0 := hN
        have hN := hN.ofGr ((Gr.refl _).drew.trans hgw10)
        replace hB5 := hB5.gr ((Gr.refl _).drew.trans hgw10)
        replace hszB := Nat.le_trans hszB ((Gr.refl _).drew.trans hgw10).size
        have e35 : σ 35 = _ := (hd 35 (by decide) _ rfl).1 trivial
        replace H47 := H47.sub (r := [(131, _), (0, _), (1, _), (5, _), (6, _), (7, _), (8, _), (9, _)]) ⟨congrArg some e35, rfl, rfl, rfl, rfl, rfl, rfl, rfl, trivial⟩
        clear hd
        replace H47 := H47.known (t := 131) (b := false) rfl (by simp [dtag_words, dwords_one hA.inK hxk hi])
        clear hap
        refine wl_end ?_
        refine th_n ?_
        refine w_ff H47 rfl rfl ?_
        refine wpIn_skip ?_
        refine th_n ?_
        refine wpIn_seq ?_
        refine wpIn_seq ?_
        refine w_reg ?_
        refine wl1 H47 (r_move rfl) rfl rfl rfl rfl fun a38 H48 => ?_
        clear H47 a37
        refine wl1 H48 (r_len Try.underlying48 rfl) rfl rfl rfl rfl fun a39 H49 => ?_
        clear H48 a38
        refine wl1 H49 (r_gtr rfl rfl) rfl rfl rfl rfl fun a40 H50 => ?_
        clear H49 a39
        refine wl_end ?_
        refine th_n ?_
        first | refine w_if H50 rfl (fun hc134 => ?_) (fun hc134 => ?_) | refine w_cond H50 rfl (fun hc134 => ?_) (fun hc134 => ?_)
        ·
          try simp only [decide_eq_true_eq, decide_eq_false_iff_not, Bool.or_eq_true, Bool.and_eq_true, Bool.or_eq_false_iff, Bool.and_eq_false_iff, Bool.not_eq_true', Bool.not_eq_false', Int.not_lt, Int.not_le, ne_eq, Decidable.not_not] at hc134
          obtain ⟨bB, oB, rfl⟩ := hE0.form (by omega)
          refine wpIn_seq ?_
          refine w_reg ?_
          refine wl1 H50 (r_idxA Try.underlying56 sz33 rfl rfl (i := 3) rfl (by omega)) rfl rfl rfl rfl fun a41 H51 => ?_
          clear H50 a40
          refine wl1 H51 (r_load sc33 rfl (hB5.cell rfl)) rfl rfl rfl rfl fun a42 H52 => ?_
          clear H51 a41
          refine wl1 H52 (r_move rfl) rfl rfl rfl rfl fun a43 H53 => ?_
          clear H52 a42
          refine wl1 H53 (r_len Try.underlying48 rfl) rfl rfl rfl rfl fun a44 H54 => ?_
          clear H53 a43
          refine wl1 H54 (r_convk Try.underlying3 Try.underlying33 rfl (by simp only [InK]; omega)) rfl rfl rfl rfl fun a45 H55 => ?_
          clear H54 a44
          refine wl1 H55 (r_remk rfl rfl (by omega) (by omega)) rfl rfl rfl rfl fun a46 H56 => ?_
          clear H55 a45
          obtain ⟨i, hi0⟩ : ∃ n : Nat, z3 % (bs.length : Int) = (n : Int) := ⟨(z3 % (bs.length : Int)).toNat, by have := Int.emod_nonneg z3 (show (bs.length : Int) ≠ 0 by omega); omega⟩
          have hi : i < bs.length := by have := Int.emod_lt_of_pos z3 (show (0 : Int) < (bs.length : Int) by omega); omega
          rw [hi0] at H56
          first | refine wl1 H56 (r_convk Try.underlying33 Try.underlying3 rfl (by simp only [InK]; omega)) rfl rfl rfl rfl fun a47 H57 => ?_ | refine wl1 H56 (r_conv Try.underlying33 Try.underlying3 rfl) rfl rfl rfl rfl fun a47 H57 => ?_
          clear H56 a46
          refine wl1 H57 (r_assign rfl) rfl rfl rfl rfl fun a48 H58 => ?_
          clear H57 a47
          refine wl_end ?_
          refine th_n ?_
          refine wpIn_seq ?_
          refine w_reg ?_
          obtain ⟨B8, hBv⟩ : ∃ B, B = (w10).heap.size := ⟨_, rfl⟩
          have hlt5c := hB5.lt
          have hwC : w.heap.size ≤ B8 := by rw [hBv]; exact hN.gr.size
          have hszC : B8 ≤ (w10).heap.size := Nat.le_of_eq hBv
          refine s_lit1 (cs := []) H58 Try.underlying48 sz5 zv5 rfl rfl rfl (by simp [Value.oneCell']) rfl hN fun w11 l142 K11 hKl142 hlel142 hN nw11 hgel142 a49 H59 => ?_
          clear H58 a48
          replace hA := hA.up nw11.le
          replace hE0 := hE0.up nw11.le
          replace hEo := hEo.up nw11.le
          replace hB5 := hB5.next nw11
          replace hszB := Nat.le_trans hszB nw11.gr.size
          replace hszC := Nat.le_trans hszC nw11.gr.size
          refine wl1 H59 (r_move rfl) rfl rfl rfl rfl fun a50 H60 => ?_
          clear H59 a49
          refine s_app (d := kInt .u8) (B := B8) H60 rfl rfl Try.underlying48 nf5 rfl (by decide) (by decide) rfl hN (.inr ⟨_, rfl, Els.nil _ _ _⟩) hE0 rfl hwC hszC (by simp; omega) fun vw12 w12 hO hOO hOO2 kw12 hN a51 H61 => ?_
          clear H60 a50
          replace hB5 := hB5.keep kw12 (by omega)
          replace hszB := Nat.le_trans hszB kw12.size
          replace hszC := Nat.le_trans hszC kw12.size
          obtain ⟨go, co, cs, rest, rfl, hco, _, hgo, hR, hBo⟩ := (hOO (by omega)).box (by simp; omega)
          clear hO hOO hOO2
          obtain ⟨rfl, _⟩ := hR.ints
          clear hR
          rw [List.nil_append] at hBo H61 hco
          refine wl1 H61 (r_assign rfl) rfl rfl rfl rfl fun a52 H62 => ?_
          clear H61 a51
          refine wl_end ?_
          refine th_n ?_
          refine wpIn_seq ?_
          refine w_reg ?_
          refine wl1 H62 (r_move rfl) rfl rfl rfl rfl fun a53 H63 => ?_
          clear H62 a52
          refine wl1 H63 (r_move rfl) rfl rfl rfl rfl fun a54 H64 => ?_
          clear H63 a53
          refine wl1 H64 (r_idxA Try.underlying56 sz33 rfl rfl (i := 0) rfl (by omega)) rfl rfl rfl rfl fun a55 H65 => ?_
          clear H64 a54
          refine wl1 H65 (r_load sc33 rfl (hB5.cell rfl)) rfl rfl rfl rfl fun a56 H66 => ?_
          clear H65 a55
          refine wl1 H66 (r_conv Try.underlying33 Try.underlying5 rfl) rfl rfl rfl rfl fun a57 H67 => ?_
          clear H66 a56
          obtain ⟨x0, hx0⟩ : ∃ x, x = IntKind.u8.wrap z0 := ⟨_, rfl⟩
          have hxk : InK .u8 x0 := by rw [hx0]; exact inK_wrap _ _
          rw [← hx0] at H67
          refine wl1 H67 (r_idx Try.underlying48 sz5 rfl rfl (i := i) rfl (by omega)) rfl rfl rfl rfl fun a58 H68 => ?_
          clear H67 a57
          refine s_store H68 sz5 rfl rfl rfl hN hBo (by simp; omega) (by omega) fun w13 hN hBo ew13 H69 => ?_
          clear H68
          replace hB5 := hB5.otherE ew13 (by omega)
          replace hszB := sz_setB ew13 hszB
          replace hszC := sz_setB ew13 hszC
          rw [own_set hi] at hBo
          clear ew13
          refine wl_end ?_
          refine th_n ?_
          refine wpIn_seq ?_
          obtain ⟨Kz13, hN, hEq, hleKz13, hsmKz13⟩ := hN.freezeRow hBo (Row.nums (own_setIn hE0.inK hxk)) (by omega) (by simp; omega)
          replace hB5 := hB5.same (hsmKz13 _ (by omega))
          replace hA := hA.up hleKz13
          replace hE0 := hE0.up hleKz13
          replace hEo := hEo.up hleKz13
          have hS0 := hN.sat
          have hNsz18 := hN.gr.size
          refine w_drawE (m := 14) (l0 := [(1, _), (6, _), (7, _), (10, _), (11, _)]) hfol H69 ⟨rfl, rfl, rfl, rfl, rfl, trivial⟩ (by kernel_rfl) ?_
          refine ⟨_, false, (fun σ ι w1 hg hd hon => by
              exact OpOK.sub (r := [(1, _), (6, _), (7, _), (10, _), (11, _)]) ⟨rfl, rfl, rfl, rfl, rfl, trivial⟩ (by
                exact OpOK.eq (r_move rfl))
              ), (fun _ _ _ _ _ _ h => h), (FreeR.no _), ?_⟩
          refine ⟨_, true, (fun σ ι w1 hg hd hon => by
              have hN := hN.ofGr ((Gr.refl _).drew.trans hg)
              have hB5 := hB5.gr ((Gr.refl _).drew.trans hg)
              have f0 := hd 0 (by decide) _ rfl
              have e0 : σ 0 = _ := f0.1 trivial
              skip
              exact CallOK.sub (r := [(151, _), (1, _), (6, _), (7, _), (10, _), (11, _)]) ⟨congrArg some e0, rfl, rfl, rfl, rfl, rfl, trivial⟩ (by
                exact CallOK.V (enters_of rfl rfl hb19) (bytes_ret hN.sat hE0 hbc))
              ), (fun _ _ _ _ _ _ h => h), (fun _ _ _ _ _ _ h => h), ?_⟩
          refine ⟨_, false, (fun σ ι w1 hg hd hon => by
              exact OpOK.sub (r := [(1, _), (6, _), (7, _), (10, _), (11, _)]) ⟨rfl, rfl, rfl, rfl, rfl, trivial⟩ (by
                exact OpOK.eq (r_move rfl))
              ), (fun _ _ _ _ _ _ h => h), (FreeR.no _), ?_⟩
          refine ⟨_, true, (fun σ ι w1 hg hd hon => by
              have hN := hN.ofGr ((Gr.refl _).drew.trans hg)
              have hB5 := hB5.gr ((Gr.refl _).drew.trans hg)
              have f2 := hd 2 (by decide) _ rfl
              have e2 : σ 2 = _ := f2.1 trivial
              skip
              exact CallOK.sub (r := [(153, _), (1, _), (6, _), (7, _), (10, _), (11, _)]) ⟨congrArg some e2, rfl, rfl, rfl, rfl, rfl, trivial⟩ (by
                exact CallOK.V (enters_of rfl rfl hb19) (bytes_ret' (l := bs.set i x0) hN.sat hEq (by simp) (by omega)))
              ), (fun _ _ _ _ _ _ h => h), (fun _ _ _ _ _ _ h => h), ?_⟩
          refine ⟨_, false, (fun σ ι w1 hg hd hon => by
              have f1 := hd 1 (by decide) _ rfl
              have f3 := hd 3 (by decide) _ rfl
              have e1 : σ 1 = _ := f1.1 trivial
              have e3 : σ 3 = _ := f3.1 trivial
              exact OpOK.sub (r := [(152, _), (154, _), (1, _), (6, _), (7, _), (10, _), (11, _)]) ⟨congrArg some e1, congrArg some e3, rfl, rfl, rfl, rfl, rfl, trivial⟩ (by
                exact OpOK.eq (r_eql rfl rfl))
              ), (fun _ _ _ _ _ _ h => h), (FreeR.no _), ?_⟩
          refine ⟨_, false, (fun σ ι w1 hg hd hon => by
              exact OpOK.sub (r := [(1, _), (6, _), (7, _), (10, _), (11, _)]) ⟨rfl, rfl, rfl, rfl, rfl, trivial⟩ (by
                exact OpOK.eq (r_move rfl))
              ), (fun _ _ _ _ _ _ h => h), (FreeR.no _), ?_⟩
          refine ⟨_, false, (fun σ ι w1 hg hd hon => by
              exact OpOK.sub (r := [(1, _), (6, _), (7, _), (10, _), (11, _)]) ⟨rfl, rfl, rfl, rfl, rfl, trivial⟩ (by
                exact OpOK.eq (r_move rfl))
              ), (fun _ _ _ _ _ _ h => h), (FreeR.no _), ?_⟩
          refine ⟨_, false, (fun σ ι w1 hg hd hon => by
              have f5 := hd 5 (by decide) _ rfl
              have f6 := hd 6 (by decide) _ rfl
              have e5 : σ 5 = _ := f5.1 trivial
              have e6 : σ 6 = _ := f6.1 trivial
              exact OpOK.sub (r := [(156, _), (157, _), (1, _), (6, _), (7, _), (10, _), (11, _)]) ⟨congrArg some e5, congrArg some e6, rfl, rfl, rfl, rfl, rfl, trivial⟩ (by
                exact OpOK.eq (r_idx Try.underlying48 sz5 rfl rfl (i := i) rfl (by omega)))
              ), (fun _ _ _ _ _ _ h => h), (FreeR.no _), ?_⟩
          refine ⟨_, false, (fun σ ι w1 hg hd hon => by
              have hN := hN.ofGr ((Gr.refl _).drew.trans hg)
              have hB5 := hB5.gr ((Gr.refl _).drew.trans hg)
              have f7 := hd 7 (by decide) _ rfl
              have e7 : σ 7 = _ := f7.1 trivial
              exact OpOK.sub (r := [(158, _), (1, _), (6, _), (7, _), (10, _), (11, _)]) ⟨congrArg some e7, rfl, rfl, rfl, rfl, rfl, trivial⟩ (by
                exact OpOK.eq (r_load sc5 rfl (hN.sat.cell (hE0.num (j := i) hi).1)))
              ), (fun _ _ _ _ _ _ h => h), (FreeR.no _), ?_⟩
          refine ⟨_, false, (fun σ ι w1 hg hd hon => by
              exact OpOK.sub (r := [(1, _), (6, _), (7, _), (10, _), (11, _)]) ⟨rfl, rfl, rfl, rfl, rfl, trivial⟩ (by
                exact OpOK.eq (r_move rfl))
              ), (fun _ _ _ _ _ _ h => h), (FreeR.no _), ?_⟩
          refine ⟨_, false, (fun σ ι w1 hg hd hon => by
              exact OpOK.sub (r := [(1, _), (6, _), (7, _), (10, _), (11, _)]) ⟨rfl, rfl, rfl, rfl, rfl, trivial⟩ (by
                exact OpOK.eq (r_move rfl))
              ), (fun _ _ _ _ _ _ h => h), (FreeR.no _), ?_⟩
          refine ⟨_, false, (fun σ ι w1 hg hd hon => by
              have f9 := hd 9 (by decide) _ rfl
              have f10 := hd 10 (by decide) _ rfl
              have e9 : σ 9 = _ := f9.1 trivial
              have e10 : σ 10 = _ := f10.1 trivial
              exact OpOK.sub (r := [(160, _), (161, _), (1, _), (6, _), (7, _), (10, _), (11, _)]) ⟨congrArg some e9, congrArg some e10, rfl, rfl, rfl, rfl, rfl, trivial⟩ (by
                exact OpOK.eq (r_idx Try.underlying48 sz5 rfl rfl (i := i) rfl (by omega)))
              ), (fun _ _ _ _ _ _ h => h), (FreeR.no _), ?_⟩
          refine ⟨_, false, (fun σ ι w1 hg hd hon => by
              have hN := hN.ofGr ((Gr.refl _).drew.trans hg)
              have hB5 := hB5.gr ((Gr.refl _).drew.trans hg)
              have f11 := hd 11 (by decide) _ rfl
              have e11 : σ 11 = _ := f11.1 trivial
              exact OpOK.sub (r := [(162, _), (1, _), (6, _), (7, _), (10, _), (11, _)]) ⟨congrArg some e11, rfl, rfl, rfl, rfl, rfl, trivial⟩ (by
                exact OpOK.eq (r_load sc5 rfl (hN.sat.cell (hEq.num (j := i) (by simp; omega)).1)))
              ), (fun _ _ _ _ _ _ h => h), (FreeR.no _), ?_⟩
          refine ⟨_, false, (fun σ ι w1 hg hd hon => by
              have f8 := hd 8 (by decide) _ rfl
              have f12 := hd 12 (by decide) _ rfl
              have e8 : σ 8 = _ := f8.1 trivial
              have e12 : σ 12 = _ := f12.1 trivial
              exact OpOK.sub (r := [(159, _), (163, _), (1, _), (6, _), (7, _), (10, _), (11, _)]) ⟨congrArg some e8, congrArg some e12, rfl, rfl, rfl, rfl, rfl, trivial⟩ (by
                exact OpOK.eq (r_eql rfl rfl))
              ), (fun _ _ _ _ _ _ h => h), (FreeR.no _), ?_⟩
          intro σ ι a59 w16 hgw16 H70 hd hap
          skip
          have hN0 := hN
          have hN := hN.ofGr ((Gr.refl _).drew.trans hgw16)
          replace hB5 := hB5.gr ((Gr.refl _).drew.trans hgw16)
          replace hszB := Nat.le_trans hszB ((Gr.refl _).drew.trans hgw16).size
          replace hszC := Nat.le_trans hszC ((Gr.refl _).drew.trans hgw16).size
          have e4 : σ 4 = _ := (hd 4 (by decide) _ rfl).1 trivial
          have e13 : σ 13 = _ := (hd 13 (by decide) _ rfl).1 trivial
          replace H70 := H70.sub (r := [(155, _), (164, _), (1, _), (6, _), (7, _), (10, _), (11, _)]) ⟨congrArg some e4, congrArg some e13, rfl, rfl, rfl, rfl, rfl, trivial⟩
          clear hd
          clear hap
          refine wl1 H70 (r_neb Try.underlying4 rfl rfl) rfl rfl rfl rfl fun a60 H71 => ?_
          clear H70 a59
          replace H71 := H71.known (t := 165) (b := false) rfl (by simp [dbytes_one hE0.inK hxk hi])
          refine wl_end ?_
          refine th_n ?_
          refine w_ff H71 rfl rfl ?_
          refine wpIn_skip ?_
          refine th_n ?_
          refine wpIn_seq ?_
          refine w_reg ?_
          refine wl1 H71 (r_move rfl) rfl rfl rfl rfl fun a61 H72 => ?_
          clear H71 a60
          refine wl1 H72 (r_assign rfl) rfl rfl rfl rfl fun a62 H73 => ?_
          clear H72 a61
          refine wl_end ?_
          refine th_n ?_
          refine wpIn_ret ?_
          refine fin_r H73 (res1 rfl H73 rfl) ?_
          exact ⟨rfl, hN.gr⟩
        ·
          try simp only [decide_eq_true_eq, decide_eq_false_iff_not, Bool.or_eq_true, Bool.and_eq_true, Bool.or_eq_false_iff, Bool.and_eq_false_iff, Bool.not_eq_true', Bool.not_eq_false', Int.not_lt, Int.not_le, ne_eq, Decidable.not_not] at hc134
          refine wpIn_skip ?_
          refine th_n ?_
          refine wpIn_seq ?_
          refine w_reg ?_
          refine wl1 H50 (r_move rfl) rfl rfl rfl rfl fun a41 H74 => ?_
          clear H50 a40
          refine wl1 H74 (r_assign rfl) rfl rfl rfl rfl fun a42 H75 => ?_
          clear H74 a41
          refine wl_end ?_
          refine th_n ?_
          refine wpIn_ret ?_
          refine fin_r H75 (res1 rfl H75 rfl) ?_
          exact ⟨rfl, hN.gr⟩
      ·
        try simp only [decide_eq_true_eq, decide_eq_false_iff_not, Bool.or_eq_true, Bool.and_eq_true, Bool.or_eq_false_iff, Bool.and_eq_false_iff, Bool.not_eq_true', Bool.not_eq_false', Int.not_lt, Int.not_le, ne_eq, Decidable.not_not] at hc79
        refine wpIn_skip ?_
        refine th_n ?_
        refine wpIn_seq ?_
        refine wpIn_seq ?_
        refine w_reg ?_
        refine wl1 H27 (r_move rfl) rfl rfl rfl rfl fun a19 H76 => ?_
        clear H27 a18
        refine wl1 H76 (r_len Try.underlying48 rfl) rfl rfl rfl rfl fun a20 H77 => ?_
        clear H76 a19
        refine wl1 H77 (r_gtr rfl rfl) rfl rfl rfl rfl fun a21 H78 => ?_
        clear H77 a20
        refine wl_end ?_
        refine th_n ?_
        first | refine w_if H78 rfl (fun hc134 => ?_) (fun hc134 => ?_) | refine w_cond H78 rfl (fun hc134 => ?_) (fun hc134 => ?_)
        ·
          try simp only [decide_eq_true_eq, decide_eq_false_iff_not, Bool.or_eq_true, Bool.and_eq_true, Bool.or_eq_false_iff, Bool.and_eq_false_iff, Bool.not_eq_true', Bool.not_eq_false', Int.not_lt, Int.not_le, ne_eq, Decidable.not_not] at hc134
          obtain ⟨bB, oB, rfl⟩ := hE0.form (by omega)
          refine wpIn_seq ?_
          refine w_reg ?_
          refine wl1 H78 (r_idxA Try.underlying56 sz33 rfl rfl (i := 3) rfl (by omega)) rfl rfl rfl rfl fun a22 H79 => ?_
          clear H78 a21
          refine wl1 H79 (r_load sc33 rfl (hB5.cell rfl)) rfl rfl rfl rfl fun a23 H80 => ?_
          clear H79 a22
          refine wl1 H80 (r_move rfl) rfl rfl rfl rfl fun a24 H81 => ?_
          clear H80 a23
          refine wl1 H81 (r_len Try.underlying48 rfl) rfl rfl rfl rfl fun a25 H82 => ?_
          clear H81 a24
          refine wl1 H82 (r_convk Try.underlying3 Try.underlying33 rfl (by simp only [InK]; omega)) rfl rfl rfl rfl fun a26 H83 => ?_
          clear H82 a25
          refine wl1 H83 (r_remk rfl rfl (by omega) (by omega)) rfl rfl rfl rfl fun a27 H84 => ?_
          clear H83 a26
          obtain ⟨i, hi0⟩ : ∃ n : Nat, z3 % (bs.length : Int) = (n : Int) := ⟨(z3 % (bs.length : Int)).toNat, by have := Int.emod_nonneg z3 (show (bs.length : Int) ≠ 0 by omega); omega⟩
          have hi : i < bs.length := by have := Int.emod_lt_of_pos z3 (show (0 : Int) < (bs.length : Int) by omega); omega
          rw [hi0] at H84
          first | refine wl1 H84 (r_convk Try.underlying33 Try.underlying3 rfl (by simp only [InK]; omega)) rfl rfl rfl rfl fun a28 H85 => ?_ | refine wl1 H84 (r_conv Try.underlying33 Try.underlying3 rfl) rfl rfl rfl rfl fun a28 H85 => ?_
          clear H84 a27
          refine wl1 H85 (r_assign rfl) rfl rfl rfl rfl fun a29 H86 => ?_
          clear H85 a28
          refine wl_end ?_
          refine th_n ?_
          refine wpIn_seq ?_
          refine w_reg ?_
          obtain ⟨B8, hBv⟩ : ∃ B, B = (w4).heap.size := ⟨_, rfl⟩
          have hlt5c := hB5.lt
          have hwC : w.heap.size ≤ B8 := by rw [hBv]; exact hN.gr.size
          have hszC : B8 ≤ (w4).heap.size := Nat.le_of_eq hBv
          refine s_lit1 (cs := []) H86 Try.underlying48 sz5 zv5 rfl rfl rfl (by simp [Value.oneCell']) rfl hN fun w17 l142 K17 hKl142 hlel142 hN nw17 hgel142 a30 H87 => ?_
          clear H86 a29
          replace hA := hA.up nw17.le
          replace hE0 := hE0.up nw17.le
          replace hB5 := hB5.next nw17
          replace hszC := Nat.le_trans hszC nw17.gr.size
          refine wl1 H87 (r_move rfl) rfl rfl rfl rfl fun a31 H88 => ?_
          clear H87 a30
          refine s_app (d := kInt .u8) (B := B8) H88 rfl rfl Try.underlying48 nf5 rfl (by decide) (by decide) rfl hN (.inr ⟨_, rfl, Els.nil _ _ _⟩) hE0 rfl hwC hszC (by simp; omega) fun vw18 w18 hO hOO hOO2 kw18 hN a32 H89 => ?_
          clear H88 a31
          replace hB5 := hB5.keep kw18 (by omega)
          replace hszC := Nat.le_trans hszC kw18.size
          obtain ⟨go, co, cs, rest, rfl, hco, _, hgo, hR, hBo⟩ := (hOO (by omega)).box (by simp; omega)
          clear hO hOO hOO2
          obtain ⟨rfl, _⟩ := hR.ints
          clear hR
          rw [List.nil_append] at hBo H89 hco
          refine wl1 H89 (r_assign rfl) rfl rfl rfl rfl fun a33 H90 => ?_
          clear H89 a32
          refine wl_end ?_
          refine th_n ?_
          refine wpIn_seq ?_
          refine w_reg ?_
          refine wl1 H90 (r_move rfl) rfl rfl rfl rfl fun a34 H91 => ?_
          clear H90 a33
          refine wl1 H91 (r_move rfl) rfl rfl rfl rfl fun a35 H92 => ?_
          clear H91 a34
          refine wl1 H92 (r_idxA Try.underlying56 sz33 rfl rfl (i := 0) rfl (by omega)) rfl rfl rfl rfl fun a36 H93 => ?_
          clear H92 a35
          refine wl1 H93 (r_load sc33 rfl (hB5.cell rfl)) rfl rfl rfl rfl fun a37 H94 => ?_
          clear H93 a36
          refine wl1 H94 (r_conv Try.underlying33 Try.underlying5 rfl) rfl rfl rfl rfl fun a38 H95 => ?_
          clear H94 a37
          obtain ⟨x0, hx0⟩ : ∃ x, x = IntKind.u8.wrap z0 := ⟨_, rfl⟩
          have hxk : InK .u8 x0 := by rw [hx0]; exact inK_wrap _ _
          rw [← hx0] at H95
          refine wl1 H95 (r_idx Try.underlying48 sz5 rfl rfl (i := i) rfl (by omega)) rfl rfl rfl rfl fun a39 H96 => ?_
          clear H95 a38
          refine s_store H96 sz5 rfl rfl rfl hN hBo (by simp; omega) (by omega) fun w19 hN hBo ew19 H97 => ?_
          clear H96
          replace hB5 := hB5.otherE ew19 (by omega)
          replace hszC := sz_setB ew19 hszC
          rw [own_set hi] at hBo
          clear ew19
          refine wl_end ?_
          refine th_n ?_
          refine wpIn_seq ?_
          obtain ⟨Kz19, hN, hEq, hleKz19, hsmKz19⟩ := hN.freezeRow hBo (Row.nums (own_setIn hE0.inK hxk)) (by omega) (by simp; omega)
          replace hB5 := hB5.same (hsmKz19 _ (by omega))
          replace hA := hA.up hleKz19
          replace hE0 := hE0.up hleKz19
          have hS0 := hN.sat
          have hNsz18 := hN.gr.size
          refine w_drawE (m := 14) (l0 := [(1, _), (6, _), (7, _), (10, _), (11, _)]) hfol H97 ⟨rfl, rfl, rfl, rfl, rfl, trivial⟩ (by kernel_rfl) ?_
          refine ⟨_, false, (fun σ ι w1 hg hd hon => by
              exact OpOK.sub (r := [(1, _), (6, _), (7, _), (10, _), (11, _)]) ⟨rfl, rfl, rfl, rfl, rfl, trivial⟩ (by
                exact OpOK.eq (r_move rfl))
              ), (fun _ _ _ _ _ _ h => h), (FreeR.no _), ?_⟩
          refine ⟨_, true, (fun σ ι w1 hg hd hon => by
              have hN := hN.ofGr ((Gr.refl _).drew.trans hg)
              have hB5 := hB5.gr ((Gr.refl _).drew.trans hg)
              have f0 := hd 0 (by decide) _ rfl
              have e0 : σ 0 = _ := f0.1 trivial
              skip
              exact CallOK.sub (r := [(151, _), (1, _), (6, _), (7, _), (10, _), (11, _)]) ⟨congrArg some e0, rfl, rfl, rfl, rfl, rfl, trivial⟩ (by
                exact CallOK.V (enters_of rfl rfl hb19) (bytes_ret hN.sat hE0 hbc))
              ), (fun _ _ _ _ _ _ h => h), (fun _ _ _ _ _ _ h => h), ?_⟩
          refine ⟨_, false, (fun σ ι w1 hg hd hon => by
              exact OpOK.sub (r := [(1, _), (6, _), (7, _), (10, _), (11, _)]) ⟨rfl, rfl, rfl, rfl, rfl, trivial⟩ (by
                exact OpOK.eq (r_move rfl))
              ), (fun _ _ _ _ _ _ h => h), (FreeR.no _), ?_⟩
          refine ⟨_, true, (fun σ ι w1 hg hd hon => by
              have hN := hN.ofGr ((Gr.refl _).drew.trans hg)
              have hB5 := hB5.gr ((Gr.refl _).drew.trans hg)
              have f2 := hd 2 (by decide) _ rfl
              have e2 : σ 2 = _ := f2.1 trivial
              skip
              exact CallOK.sub (r := [(153, _), (1, _), (6, _), (7, _), (10, _), (11, _)]) ⟨congrArg some e2, rfl, rfl, rfl, rfl, rfl, trivial⟩ (by
                exact CallOK.V (enters_of rfl rfl hb19) (bytes_ret' (l := bs.set i x0) hN.sat hEq (by simp) (by omega)))
              ), (fun _ _ _ _ _ _ h => h), (fun _ _ _ _ _ _ h => h), ?_⟩
          refine ⟨_, false, (fun σ ι w1 hg hd hon => by
              have f1 := hd 1 (by decide) _ rfl
              have f3 := hd 3 (by decide) _ rfl
              have e1 : σ 1 = _ := f1.1 trivial
              have e3 : σ 3 = _ := f3.1 trivial
              exact OpOK.sub (r := [(152, _), (154, _), (1, _), (6, _), (7, _), (10, _), (11, _)]) ⟨congrArg some e1, congrArg some e3, rfl, rfl, rfl, rfl, rfl, trivial⟩ (by
                exact OpOK.eq (r_eql rfl rfl))
              ), (fun _ _ _ _ _ _ h => h), (FreeR.no _), ?_⟩
          refine ⟨_, false, (fun σ ι w1 hg hd hon => by
              exact OpOK.sub (r := [(1, _), (6, _), (7, _), (10, _), (11, _)]) ⟨rfl, rfl, rfl, rfl, rfl, trivial⟩ (by
                exact OpOK.eq (r_move rfl))
              ), (fun _ _ _ _ _ _ h => h), (FreeR.no _), ?_⟩
          refine ⟨_, false, (fun σ ι w1 hg hd hon => by
              exact OpOK.sub (r := [(1, _), (6, _), (7, _), (10, _), (11, _)]) ⟨rfl, rfl, rfl, rfl, rfl, trivial⟩ (by
                exact OpOK.eq (r_move rfl))
              ), (fun _ _ _ _ _ _ h => h), (FreeR.no _), ?_⟩
          refine ⟨_, false, (fun σ ι w1 hg hd hon => by
              have f5 := hd 5 (by decide) _ rfl
              have f6 := hd 6 (by decide) _ rfl
              have e5 : σ 5 = _ := f5.1 trivial
              have e6 : σ 6 = _ := f6.1 trivial
              exact OpOK.sub (r := [(156, _), (157, _), (1, _), (6, _), (7, _), (10, _), (11, _)]) ⟨congrArg some e5, congrArg some e6, rfl, rfl, rfl, rfl, rfl, trivial⟩ (by
                exact OpOK.eq (r_idx Try.underlying48 sz5 rfl rfl (i := i) rfl (by omega)))
              ), (fun _ _ _ _ _ _ h => h), (FreeR.no _), ?_⟩
          refine ⟨_, false, (fun σ ι w1 hg hd hon => by
              have hN := hN.ofGr ((Gr.refl _).drew.trans hg)
              have hB5 := hB5.gr ((Gr.refl _).drew.trans hg)
              have f7 := hd 7 (by decide) _ rfl
              have e7 : σ 7 = _ := f7.1 trivial
              exact OpOK.sub (r := [(158, _), (1, _), (6, _), (7, _), (10, _), (11, _)]) ⟨congrArg some e7, rfl, rfl, rfl, rfl, rfl, trivial⟩ (by
                exact OpOK.eq (r_load sc5 rfl (hN.sat.cell (hE0.num (j := i) hi).1)))
              ), (fun _ _ _ _ _ _ h => h), (FreeR.no _), ?_⟩
          refine ⟨_, false, (fun σ ι w1 hg hd hon => by
              exact OpOK.sub (r := [(1, _), (6, _), (7, _), (10, _), (11, _)]) ⟨rfl, rfl, rfl, rfl, rfl, trivial⟩ (by
                exact OpOK.eq (r_move rfl))
              ), (fun _ _ _ _ _ _ h => h), (FreeR.no _), ?_⟩
          refine ⟨_, false, (fun σ ι w1 hg hd hon => by
              exact OpOK.sub (r := [(1, _), (6, _), (7, _), (10, _), (11, _)]) ⟨rfl, rfl, rfl, rfl, rfl, trivial⟩ (by
                exact OpOK.eq (r_move rfl))
              ), (fun _ _ _ _ _ _ h => h), (FreeR.no _), ?_⟩
          refine ⟨_, false, (fun σ ι w1 hg hd hon => by
              have f9 := hd 9 (by decide) _ rfl
              have f10 := hd 10 (by decide) _ rfl
              have e9 : σ 9 = _ := f9.1 trivial
              have e10 : σ 10 = _ := f10.1 trivial
              exact OpOK.sub (r := [(160, _), (161, _), (1, _), (6, _), (7, _), (10, _), (11, _)]) ⟨congrArg some e9, congrArg some e10, rfl, rfl, rfl, rfl, rfl, trivial⟩ (by
                exact OpOK.eq (r_idx Try.underlying48 sz5 rfl rfl (i := i) rfl (by omega)))
              ), (fun _ _ _ _ _ _ h => h), (FreeR.no _), ?_⟩
          refine ⟨_, false, (fun σ ι w1 hg hd hon => by
              have hN := hN.ofGr ((Gr.refl _).drew.trans hg)
              have hB5 := hB5.gr ((Gr.refl _).drew.trans hg)
              have f11 := hd 11 (by decide) _ rfl
              have e11 : σ 11 = _ := f11.1 trivial
              exact OpOK.sub (r := [(162, _), (1, _), (6, _), (7, _), (10, _), (11, _)]) ⟨congrArg some e11, rfl, rfl, rfl, rfl, rfl, trivial⟩ (by
                exact OpOK.eq (r_load sc5 rfl (hN.sat.cell (hEq.num (j := i) (by simp; omega)).1)))
              ), (fun _ _ _ _ _ _ h => h), (FreeR.no _), ?_⟩
          refine ⟨_, false, (fun σ ι w1 hg hd hon => by
              have f8 := hd 8 (by decide) _ rfl
              have f12 := hd 12 (by decide) _ rfl
              have e8 : σ 8 = _ := f8.1 trivial
              have e12 : σ 12 = _ := f12.1 trivial
              exact OpOK.sub (r := [(159, _), (163, _), (1, _), (6, _), (7, _), (10, _), (11, _)]) ⟨congrArg some e8, congrArg some e12, rfl, rfl, rfl, rfl, rfl, trivial⟩ (by
                exact OpOK.eq (r_eql rfl rfl))
              ), (fun _ _ _ _ _ _ h => h), (FreeR.no _), ?_⟩
          intro σ ι a40 w22 hgw22 H98 hd hap
          skip
          have hN0 := hN
          have hN := hN.ofGr ((Gr.refl _).drew.trans hgw22)
          replace hB5 := hB5.gr ((Gr.refl _).drew.trans hgw22)
          replace hszC := Nat.le_trans hszC ((Gr.refl _).drew.trans hgw22).size
          have e4 : σ 4 = _ := (hd 4 (by decide) _ rfl).1 trivial
          have e13 : σ 13 = _ := (hd 13 (by decide) _ rfl).1 trivial
          replace H98 := H98.sub (r := [(155, _), (164, _), (1, _), (6, _), (7, _), (10, _), (11, _)]) ⟨congrArg some e4, congrArg some e13, rfl, rfl, rfl, rfl, rfl, trivial⟩
          clear hd
          clear hap
          refine wl1 H98 (r_neb Try.underlying4 rfl rfl) rfl rfl rfl rfl fun a41 H99 => ?_
          clear H98 a40
          replace H99 := H99.known (t := 165) (b := false) rfl (by simp [dbytes_one hE0.inK hxk hi])
          refine wl_end ?_
          refine th_n ?_
          refine w_ff H99 rfl rfl ?_
          refine wpIn_skip ?_
          refine th_n ?_
          refine wpIn_seq ?_
          refine w_reg ?_
          refine wl1 H99 (r_move rfl) rfl rfl rfl rfl fun a42 H100 => ?_
          clear H99 a41
          refine wl1 H100 (r_assign rfl) rfl rfl rfl rfl fun a43 H101 => ?_
          clear H100 a42
          refine wl_end ?_
          refine th_n ?_
          refine wpIn_ret ?_
          refine fin_r H101 (res1 rfl H101 rfl) ?_
          exact ⟨rfl, hN.gr⟩
        ·
          try simp only [decide_eq_true_eq, decide_eq_false_iff_not, Bool.or_eq_true, Bool.and_eq_true, Bool.or_eq_false_iff, Bool.and_eq_false_iff, Bool.not_eq_true', Bool.not_eq_false', Int.not_lt, Int.not_le, ne_eq, Decidable.not_not] at hc134
          refine wpIn_skip ?_
          refine th_n ?_
          refine wpIn_seq ?_
          refine w_reg ?_
          refine wl1 H78 (r_move rfl) rfl rfl rfl rfl fun a22 H102 => ?_
          clear H78 a21
          refine wl1 H102 (r_assign rfl) rfl rfl rfl rfl fun a23 H103 => ?_
          clear H102 a22
          refine wl_end ?_
          refine th_n ?_
          refine wpIn_ret ?_
          refine fin_r H103 (res1 rfl H103 rfl) ?_
          exact ⟨rfl, hN.gr⟩
  -- UNUSED r6.52
  -- UNUSED r12.35
end Go.Proofs.Ytlikefnngkokhaa
