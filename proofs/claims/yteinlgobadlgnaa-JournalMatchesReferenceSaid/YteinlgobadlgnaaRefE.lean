/- The reference of the journal: putting. -/
import Derived.Test.YteinlgobadlgnaaRefD
set_option linter.unusedVariables false
set_option linter.unusedSimpArgs false
namespace Go.Proofs.Yteinlgobadlgnaa
open Go.RowKit


def RPutPost (I : Im) (w : World) (l rec : List Int) (v : Value) (w' : World) : Prop :=
  ∃ J, New I w J w' ∧ ∃ A c, v = .agg #[.slice A (putB l rec).length c, .int .i64 (putErr l rec)] ∧ (putB l rec).length ≤ c ∧ Els (kInt .u8) J A (putB l rec)
theorem rputPost_err {I J : Im} {w w' : World} {l rec : List Int} {e : Int} (h : New I w J w') (he : putErr l rec = e) (hne : e ≠ 0) : RPutPost I w l rec (.agg #[.slice none 0 0, .int .i64 e]) w' := by
  refine ⟨J, h, none, 0, ?_⟩
  have : putB l rec = [] := by unfold putB; rw [if_neg (by rw [he]; exact hne)]
  rw [this, he]
  exact ⟨rfl, Nat.le_refl _, Els.nil _ _ _⟩
theorem rputPost_ok {I J : Im} {w w' : World} {l rec : List Int} {v : Value} {B : Nat} (h : New I w J w') (hO : Apx (kInt .u8) J w' B 5 v (l ++ encB (jall l 0).key rec)) (hB : w.heap.size ≤ B) (he : putErr l rec = 0) : RPutPost I w l rec (.agg #[v, .int .i64 0]) w' := by
  obtain ⟨K, A, c, hK, _, _, rfl, hc, hE⟩ := hO.freeze h hB
  have e : putB l rec = l ++ encB (jall l 0).key rec := by unfold putB; rw [if_pos he]
  exact ⟨K, hK, A, c, by rw [he, e], by rw [e]; exact hc, by rw [e]; exact hE⟩
theorem encB_length {key : Int} {rec : List Int} : (encB key rec).length = 24 + 8 * rec.length := by
  simp [encB, wsB_length, headW]; omega

set_option maxRecDepth 100000 in
set_option maxHeartbeats 400000 in
theorem rput {A R : Option Addr} {c cr : Nat} {l rec : List Int} {I : Im} {w : World} (hS : Sat I w) (hA : Els (kInt .u8) I A l) (hlc : l.length ≤ c) (hmax : l.length ≤ 16777216) (hR : Els (kInt .i64) I R rec) (hrc : rec.length ≤ cr) :
    Ret Try.prog 15 [.slice A l.length c, .slice R rec.length cr] w (RPutPost I w l rec) := by
  have hrm := hR.1
  refine ret_of (N := 36) Try.func15 rfl rfl rfl fun a0 H0 => ?_
  have hN := New.refl hS
  simp only [argsEnv, Nat.zero_add, Nat.reduceAdd] at H0
  refine wpIn_seq ?_
  refine w_reg ?_
  refine s_alloc H0 zv37 rfl hN fun w1 b4 hN gw1 hB4 hgeb4 heb4 a1 H1 => ?_
  clear H0 a0
  replace hB4 : Box _ _ _ [.slice none 0 0, .int .i64 0] 37 := hB4
  refine wl_end ?_
  refine th_n ?_
  refine wpIn_seq ?_
  refine wpIn_seq ?_
  refine w_reg ?_
  refine wl1 H1 (r_move rfl) rfl rfl rfl rfl fun a2 H2 => ?_
  clear H1 a1
  refine wl1 H2 (r_len Try.underlying29 rfl) rfl rfl rfl rfl fun a3 H3 => ?_
  clear H2 a2
  refine wl1 H3 (r_gtr rfl rfl) rfl rfl rfl rfl fun a4 H4 => ?_
  clear H3 a3
  refine wl_end ?_
  refine th_n ?_
  first | refine w_if H4 rfl (fun hc8 => ?_) (fun hc8 => ?_) | refine w_cond H4 rfl (fun hc8 => ?_) (fun hc8 => ?_)
  ·
    try simp only [decide_eq_true_eq, decide_eq_false_iff_not, Bool.or_eq_true, Bool.and_eq_true, Bool.or_eq_false_iff, Bool.and_eq_false_iff, Bool.not_eq_true', Bool.not_eq_false', Int.not_lt, Int.not_le, ne_eq, Decidable.not_not] at hc8
    refine wpIn_seq ?_
    refine w_reg ?_
    refine wl1 H4 (r_build (v := .agg #[.slice none 0 0, .int .i64 1]) rfl (fun w => by kernel_rfl)) rfl rfl rfl rfl fun a5 H5 => ?_
    clear H4 a4
    refine s_storeA (vs := [_, _]) H5 sz37 (by simp) (by simp [Value.oneCell']) rfl rfl hN hB4 (by simp) hgeb4 fun w2 hN hB4 ew2 H6 => ?_
    clear H5
    simp only [Nat.zero_add, Nat.add_zero, Nat.reduceAdd, Nat.reduceMul, List.set_cons_zero, List.set_cons_succ, spliceL] at hB4
    clear ew2
    refine wl_end ?_
    refine th_n ?_
    refine wpIn_ret ?_
    refine th_r ?_
    refine fin_r H6 (resC rfl H6 rfl hB4 ag37) ?_
    exact rputPost_err hN (by unfold putErr; rw [if_pos (by omega)]) (by decide)
  ·
    try simp only [decide_eq_true_eq, decide_eq_false_iff_not, Bool.or_eq_true, Bool.and_eq_true, Bool.or_eq_false_iff, Bool.and_eq_false_iff, Bool.not_eq_true', Bool.not_eq_false', Int.not_lt, Int.not_le, ne_eq, Decidable.not_not] at hc8
    refine wpIn_skip ?_
    refine th_n ?_
    refine wpIn_seq ?_
    refine w_reg ?_
    refine wl1 H4 (r_move rfl) rfl rfl rfl rfl fun a5 H7 => ?_
    clear H4 a4
    refine wlc  H7 rfl rfl hb13 rfl (rread hN.sat hA hlc hmax) fun v w3 hR a6 H8 => ?_
    clear H7 a5
    obtain ⟨J3, nw3, ⟨A1, c1, A2, c2, rfl, hc1, hE1, hc2, hE2⟩⟩ := hR
    replace hA := hA.up nw3.le
    replace hR := hR.up nw3.le
    replace hB4 := hB4.next nw3
    have hN := hN.trans nw3
    refine s_alloc H8 zv34 rfl hN fun w4 b5 hN gw4 hB5 hgeb5 heb5 a7 H9 => ?_
    clear H8 a6
    replace hB5 : Box _ _ _ [.slice none 0 0, .slice none 0 0, .int .i64 0, .int .i64 0, .int .u64 0] 34 := hB5
    have hne_hB4_b5 := hB4.lt
    rw [← heb5] at hne_hB4_b5
    replace hB4 := hB4.gr gw4
    refine s_storeA (vs := [_, _, _, _, _]) H9 sz34 (by simp) (by simp [Value.oneCell']) rfl rfl hN hB5 (by simp) hgeb5 fun w5 hN hB5 ew5 H10 => ?_
    clear H9
    replace hB4 := hB4.otherE ew5 (by omega)
    simp only [Nat.zero_add, Nat.add_zero, Nat.reduceAdd, Nat.reduceMul, List.set_cons_zero, List.set_cons_succ, spliceL] at hB5
    clear ew5
    refine wl_end ?_
    refine th_n ?_
    refine wpIn_seq ?_
    refine wpIn_seq ?_
    refine w_reg ?_
    refine wl1 H10 (r_fld fld34_2 rfl) rfl rfl rfl rfl fun a8 H11 => ?_
    clear H10 a7
    refine wl1 H11 (r_load sc31 rfl (hB5.cell rfl)) rfl rfl rfl rfl fun a9 H12 => ?_
    clear H11 a8
    refine wl1 H12 (r_neq rfl rfl) rfl rfl rfl rfl fun a10 H13 => ?_
    clear H12 a9
    refine wl_end ?_
    refine th_n ?_
    first | refine w_if H13 rfl (fun hc14 => ?_) (fun hc14 => ?_) | refine w_cond H13 rfl (fun hc14 => ?_) (fun hc14 => ?_)
    ·
      try simp only [decide_eq_true_eq, decide_eq_false_iff_not, Bool.or_eq_true, Bool.and_eq_true, Bool.or_eq_false_iff, Bool.and_eq_false_iff, Bool.not_eq_true', Bool.not_eq_false', Int.not_lt, Int.not_le, ne_eq, Decidable.not_not] at hc14
      have hoff : (jall l 0).off < l.length := by
        by_cases h : (jall l 0).off < l.length
        · exact h
        · exact absurd (if_neg h) hc14
      rw [if_pos hoff] at H13 hB5
      refine wpIn_seq ?_
      refine w_reg ?_
      refine wl1 H13 (r_fld fld34_2 rfl) rfl rfl rfl rfl fun a11 H14 => ?_
      clear H13 a10
      refine wl1 H14 (r_load sc31 rfl (hB5.cell rfl)) rfl rfl rfl rfl fun a12 H15 => ?_
      clear H14 a11
      refine wl1 H15 (r_build (v := .agg #[.slice none 0 0, .int .i64 60]) rfl (fun w => by kernel_rfl)) rfl rfl rfl rfl fun a13 H16 => ?_
      clear H15 a12
      refine s_storeA (vs := [_, _]) H16 sz37 (by simp) (by simp [Value.oneCell']) rfl rfl hN hB4 (by simp) hgeb4 fun w6 hN hB4 ew6 H17 => ?_
      clear H16
      replace hB5 := hB5.otherE ew6 (by omega)
      simp only [Nat.zero_add, Nat.add_zero, Nat.reduceAdd, Nat.reduceMul, List.set_cons_zero, List.set_cons_succ, spliceL] at hB4
      clear ew6
      refine wl_end ?_
      refine th_n ?_
      refine wpIn_ret ?_
      refine th_r ?_
      refine fin_r H17 (resC rfl H17 rfl hB4 ag37) ?_
      exact rputPost_err hN (by unfold putErr; rw [if_neg (by omega), if_pos hoff]) (by decide)
    ·
      try simp only [decide_eq_true_eq, decide_eq_false_iff_not, Bool.or_eq_true, Bool.and_eq_true, Bool.or_eq_false_iff, Bool.and_eq_false_iff, Bool.not_eq_true', Bool.not_eq_false', Int.not_lt, Int.not_le, ne_eq, Decidable.not_not] at hc14
      have hoff : ¬ (jall l 0).off < l.length := fun h => by rw [if_pos h] at hc14; cases hc14
      refine wpIn_skip ?_
      refine th_n ?_
      refine wpIn_seq ?_
      refine wpIn_seq ?_
      refine w_reg ?_
      refine wl1 H13 (r_move rfl) rfl rfl rfl rfl fun a11 H18 => ?_
      clear H13 a10
      refine wl1 H18 (r_len Try.underlying22 rfl) rfl rfl rfl rfl fun a12 H19 => ?_
      clear H18 a11
      first | refine wl1 H19 (r_addk rfl rfl (by simp only [InK]; omega)) rfl rfl rfl rfl fun a13 H20 => ?_ | refine wl1 H19 (r_add rfl rfl) rfl rfl rfl rfl fun a13 H20 => ?_
      clear H19 a12
      refine wl1 H20 (r_move rfl) rfl rfl rfl rfl fun a14 H21 => ?_
      clear H20 a13
      refine wl1 H21 (r_len Try.underlying29 rfl) rfl rfl rfl rfl fun a15 H22 => ?_
      clear H21 a14
      first | refine wl1 H22 (r_mulk rfl rfl (by simp only [InK]; omega)) rfl rfl rfl rfl fun a16 H23 => ?_ | refine wl1 H22 (r_mul rfl rfl) rfl rfl rfl rfl fun a16 H23 => ?_
      clear H22 a15
      first | refine wl1 H23 (r_addk rfl rfl (by simp only [InK]; omega)) rfl rfl rfl rfl fun a17 H24 => ?_ | refine wl1 H23 (r_add rfl rfl) rfl rfl rfl rfl fun a17 H24 => ?_
      clear H23 a16
      refine wl1 H24 (r_gtr rfl rfl) rfl rfl rfl rfl fun a18 H25 => ?_
      clear H24 a17
      refine wl_end ?_
      refine th_n ?_
      first | refine w_if H25 rfl (fun hc25 => ?_) (fun hc25 => ?_) | refine w_cond H25 rfl (fun hc25 => ?_) (fun hc25 => ?_)
      ·
        try simp only [decide_eq_true_eq, decide_eq_false_iff_not, Bool.or_eq_true, Bool.and_eq_true, Bool.or_eq_false_iff, Bool.and_eq_false_iff, Bool.not_eq_true', Bool.not_eq_false', Int.not_lt, Int.not_le, ne_eq, Decidable.not_not] at hc25
        refine wpIn_seq ?_
        refine w_reg ?_
        refine wl1 H25 (r_build (v := .agg #[.slice none 0 0, .int .i64 2]) rfl (fun w => by kernel_rfl)) rfl rfl rfl rfl fun a19 H26 => ?_
        clear H25 a18
        refine s_storeA (vs := [_, _]) H26 sz37 (by simp) (by simp [Value.oneCell']) rfl rfl hN hB4 (by simp) hgeb4 fun w7 hN hB4 ew7 H27 => ?_
        clear H26
        replace hB5 := hB5.otherE ew7 (by omega)
        simp only [Nat.zero_add, Nat.add_zero, Nat.reduceAdd, Nat.reduceMul, List.set_cons_zero, List.set_cons_succ, spliceL] at hB4
        clear ew7
        refine wl_end ?_
        refine th_n ?_
        refine wpIn_ret ?_
        refine th_r ?_
        refine fin_r H27 (resC rfl H27 rfl hB4 ag37) ?_
        exact rputPost_err hN (by unfold putErr; rw [if_neg (by omega), if_neg hoff, if_pos (by omega)]) (by decide)
      ·
        try simp only [decide_eq_true_eq, decide_eq_false_iff_not, Bool.or_eq_true, Bool.and_eq_true, Bool.or_eq_false_iff, Bool.and_eq_false_iff, Bool.not_eq_true', Bool.not_eq_false', Int.not_lt, Int.not_le, ne_eq, Decidable.not_not] at hc25
        obtain ⟨B, hBw⟩ : ∃ B, B = (w5).heap.size := ⟨_, rfl⟩
        have hltB4 := hB4.lt
        have hltB5 := hB5.lt
        refine wpIn_skip ?_
        refine th_n ?_
        refine wpIn_seq ?_
        have hS0 := hN.sat
        have hNsz8 := hN.gr.size
        refine w_drawE (m := 6) (l0 := [(0, _), (1, _), (4, _), (5, _)]) hfol H25 ⟨rfl, rfl, rfl, rfl, trivial⟩ (by kernel_rfl) ?_
        refine ⟨_, false, (fun σ ι w1 hg hd hon => by
            exact OpOK.sub (r := [(0, _), (1, _), (4, _), (5, _)]) ⟨rfl, rfl, rfl, rfl, trivial⟩ (by exact OpOK.litN (q := .u8) (xs := []) Try.underlying22 sz5 zv5 rfl rfl rfl (by simp))
            ), (fun σ v q w w' hg h => by obtain ⟨b, h1, h2⟩ := h; exact ⟨b, h1, h2.up (imOf_le hg)⟩), (FreeR.no _), ?_⟩
        refine ⟨_, false, (fun σ ι w1 hg hd hon => by
            exact OpOK.sub (r := [(0, _), (1, _), (4, _), (5, _)]) ⟨rfl, rfl, rfl, rfl, trivial⟩ (by
              exact OpOK.eq (r_move rfl))
            ), (fun _ _ _ _ _ _ h => h), (FreeR.no _), ?_⟩
        refine ⟨_, false, (fun σ ι w1 hg hd hon => by
            have hN := hN.ofGr ((Gr.refl _).drew.trans hg)
            have hB4 := hB4.gr ((Gr.refl _).drew.trans hg)
            have hB5 := hB5.gr ((Gr.refl _).drew.trans hg)
            have f0 := hd 0 (by decide) _ rfl
            have f1 := hd 1 (by decide) _ rfl
            obtain ⟨b27, e0, hE27⟩ := f0.1 trivial
            have e1 : σ 1 = _ := f1.1 trivial
            exact OpOK.sub (r := [(27, _), (28, _), (0, _), (1, _), (4, _), (5, _)]) ⟨congrArg some e0, congrArg some e1, rfl, rfl, rfl, rfl, trivial⟩ (by exact OpOK.app (d := kInt .u8) (J := J3) (B := B) rfl rfl Try.underlying22 nf5 rfl (by decide) (by decide) hN.sat (Els.nil _ _ _) rfl hA rfl (Nat.le_trans (Nat.le_of_eq hBw) hg.size) (by simp only [List.length_nil]; omega))
            ), (by intro σ v q w w' hg h; exact Apx.gr h hg), (FreeR.no _), ?_⟩
        refine ⟨_, false, (fun σ ι w1 hg hd hon => by
            exact OpOK.sub (r := [(0, _), (1, _), (4, _), (5, _)]) ⟨rfl, rfl, rfl, rfl, trivial⟩ (by
              exact OpOK.eq (r_fld fld34_4 rfl))
            ), (fun _ _ _ _ _ _ h => h), (FreeR.no _), ?_⟩
        refine ⟨_, false, (fun σ ι w1 hg hd hon => by
            have hN := hN.ofGr ((Gr.refl _).drew.trans hg)
            have hB4 := hB4.gr ((Gr.refl _).drew.trans hg)
            have hB5 := hB5.gr ((Gr.refl _).drew.trans hg)
            have f3 := hd 3 (by decide) _ rfl
            have e3 : σ 3 = _ := f3.1 trivial
            exact OpOK.sub (r := [(30, _), (0, _), (1, _), (4, _), (5, _)]) ⟨congrArg some e3, rfl, rfl, rfl, rfl, trivial⟩ (by
              exact OpOK.eq (r_load sc32 rfl (hB5.cell rfl)))
            ), (fun _ _ _ _ _ _ h => h), (FreeR.no _), ?_⟩
        refine ⟨_, false, (fun σ ι w1 hg hd hon => by
            exact OpOK.sub (r := [(0, _), (1, _), (4, _), (5, _)]) ⟨rfl, rfl, rfl, rfl, trivial⟩ (by
              exact OpOK.eq (r_move rfl))
            ), (fun _ _ _ _ _ _ h => h), (FreeR.no _), ?_⟩
        intro σ ι a19 w9 hgw9 H28 hd hap
        skip
        have hN0 := hN
        have hN := hN.ofGr ((Gr.refl _).drew.trans hgw9)
        replace hB4 := hB4.gr ((Gr.refl _).drew.trans hgw9)
        replace hB5 := hB5.gr ((Gr.refl _).drew.trans hgw9)
        have hO := (hd 2 (by decide) _ rfl).1 trivial
        try dsimp only at hO
        have e4 : σ 4 = _ := (hd 4 (by decide) _ rfl).1 trivial
        have e5 : σ 5 = _ := (hd 5 (by decide) _ rfl).1 trivial
        replace H28 := H28.sub (r := [(29, _), (31, _), (32, _), (0, _), (1, _), (4, _), (5, _)]) ⟨rfl, congrArg some e4, congrArg some e5, rfl, rfl, rfl, rfl, trivial⟩
        clear hd
        clear hap
        have hszB : B ≤ (w9).heap.size := Nat.le_trans (Nat.le_of_eq hBw) hgw9.size
        refine wlc  H28 rfl rfl hb28 rfl (renc hN.sat hR (by omega)) fun v w10 hR a20 H29 => ?_
        clear H28 a19
        obtain ⟨J10, nw10, ⟨A3, c3, rfl, hc3, hE3⟩⟩ := hR
        replace hA := hA.up nw10.le
        replace hR := hR.up nw10.le
        replace hB4 := hB4.next nw10
        replace hB5 := hB5.next nw10
        replace hO := hO.next nw10
        replace hszB := Nat.le_trans hszB nw10.gr.size
        have hN := hN.trans nw10
        refine s_app (B := B) H29 rfl rfl Try.underlying22 nf5 rfl (by decide) (by decide) rfl hN hO hE3 rfl (by omega) hszB (by simp only [List.length_append, List.length_nil, List.nil_append, encB_length]; omega) fun vw11 w11 hO hOO hOO2 kw11 hN a21 H30 => ?_
        clear H29 a20
        replace hB4 := hB4.keep kw11 (by omega)
        replace hB5 := hB5.keep kw11 (by omega)
        replace hszB := Nat.le_trans hszB kw11.size
        rw [List.nil_append] at hO
        obtain ⟨AF, cF, hvF, _⟩ := hO.form
        subst hvF
        refine wl1 H30 (r_build (v := .agg #[.slice AF (l ++ encB (jall l 0).key rec).length cF, .int .i64 0]) rfl (fun w => by kernel_rfl)) rfl rfl rfl rfl fun a22 H31 => ?_
        clear H30 a21
        refine s_storeA (vs := [_, _]) H31 sz37 (by simp) (by have h1 := Apx.one hO; intro v hv; simp only [List.mem_cons, List.mem_nil_iff, or_false] at hv; rcases hv with rfl | rfl <;> first | exact h1 | rfl) rfl rfl hN hB4 (by simp) hgeb4 fun w12 hN hB4 ew12 H32 => ?_
        clear H31
        replace hB5 := hB5.otherE ew12 (by omega)
        replace hO := hO.otherE ew12 (by omega)
        replace hszB := sz_setB ew12 hszB
        simp only [Nat.zero_add, Nat.add_zero, Nat.reduceAdd, Nat.reduceMul, List.set_cons_zero, List.set_cons_succ, spliceL] at hB4
        clear ew12
        
        refine wl_end ?_
        refine th_n ?_
        refine wpIn_ret ?_
        refine fin_r H32 (resC rfl H32 rfl hB4 ag37) ?_
        exact rputPost_ok hN hO (by omega) (by unfold putErr; rw [if_neg (by omega), if_neg hoff, if_neg (by omega)])
set_option maxRecDepth 100000 in
set_option maxHeartbeats 400000 in
theorem rwhole {A : Option Addr} {c : Nat} {l : List Int} {I : Im} {w : World} (hS : Sat I w) (hA : Els (kInt .u8) I A l) (hlc : l.length ≤ c) (hmax : l.length ≤ 16777216) :
    Ret Try.prog 19 [.slice A l.length c] w (fun v w' => v = .slice A (jall l 0).off c ∧ Gr w w') := by
  refine ret_of (N := 8) Try.func19 rfl rfl rfl fun a0 H0 => ?_
  have hN := New.refl hS
  simp only [argsEnv, Nat.zero_add, Nat.reduceAdd] at H0
  refine wpIn_seq ?_
  refine w_reg ?_
  refine wl1 H0 (r_assign rfl) rfl rfl rfl rfl fun a1 H1 => ?_
  clear H0 a0
  refine wl_end ?_
  refine th_n ?_
  refine wpIn_seq ?_
  refine w_reg ?_
  refine wl1 H1 (r_move rfl) rfl rfl rfl rfl fun a2 H2 => ?_
  clear H1 a1
  refine wl1 H2 (r_move rfl) rfl rfl rfl rfl fun a3 H3 => ?_
  clear H2 a2
  refine wlc  H3 rfl rfl hb13 rfl (rread hN.sat hA hlc hmax) fun v w1 hR a4 H4 => ?_
  clear H3 a3
  obtain ⟨J1, nw1, ⟨A1, c1, A2, c2, rfl, hc1, hE1, hc2, hE2⟩⟩ := hR
  replace hA := hA.up nw1.le
  have hN := hN.trans nw1
  refine wl1 H4 (r_fieldv 3 rfl rfl (by kernel_rfl)) rfl rfl rfl rfl fun a5 H5 => ?_
  clear H4 a4
  have hjo := @jall_off l 0
  refine wl1 H5 (r_upto (hi := (jall l 0).off) Try.underlying22 sz5 rfl rfl rfl (by omega)) rfl rfl rfl rfl fun a6 H6 => ?_
  clear H5 a5
  refine wl1 H6 (r_assign rfl) rfl rfl rfl rfl fun a7 H7 => ?_
  clear H6 a6
  refine wl_end ?_
  refine th_n ?_
  refine wpIn_ret ?_
  refine fin_r H7 (res1 rfl H7 rfl) ?_
  exact ⟨rfl, hN.gr⟩
set_option maxRecDepth 100000 in
set_option maxHeartbeats 400000 in
theorem rcut {A : Option Addr} {c : Nat} {n : Int} {l : List Int} {I : Im} {w : World} (hS : Sat I w) (hlc : l.length ≤ c) :
    Ret Try.prog 21 [.slice A l.length c, .int .i64 n] w (fun v w' => v = .slice A (min (max n 0) (l.length : Int)).toNat c ∧ Gr w w') := by
  refine ret_of (N := 12) Try.func21 rfl rfl rfl fun a0 H0 => ?_
  have hN := New.refl hS
  simp only [argsEnv, Nat.zero_add, Nat.reduceAdd] at H0
  refine wpIn_seq ?_
  refine w_reg ?_
  refine wl1 H0 (r_assign rfl) rfl rfl rfl rfl fun a1 H1 => ?_
  clear H0 a0
  refine wl_end ?_
  refine th_n ?_
  refine wpIn_seq ?_
  refine w_reg ?_
  refine wl1 H1 (r_move rfl) rfl rfl rfl rfl fun a2 H2 => ?_
  clear H1 a1
  refine wl1 H2 (r_move rfl) rfl rfl rfl rfl fun a3 H3 => ?_
  clear H2 a2
  refine wl1 H3 (r_move rfl) rfl rfl rfl rfl fun a4 H4 => ?_
  clear H3 a3
  refine wl1 H4 (r_len Try.underlying22 rfl) rfl rfl rfl rfl fun a5 H5 => ?_
  clear H4 a4
  refine wl1 H5 (r_min rfl rfl) rfl rfl rfl rfl fun a6 H6 => ?_
  clear H5 a5
  refine wl1 H6 (r_max rfl rfl) rfl rfl rfl rfl fun a7 H7 => ?_
  clear H6 a6
  refine wl1 H7 (r_upto (hi := (min (max n 0) (l.length : Int)).toNat) Try.underlying22 sz5 rfl rfl (by omega) (by omega)) rfl rfl rfl rfl fun a8 H8 => ?_
  clear H7 a7
  refine wl1 H8 (r_assign rfl) rfl rfl rfl rfl fun a9 H9 => ?_
  clear H8 a8
  refine wl_end ?_
  refine th_n ?_
  refine wpIn_ret ?_
  refine fin_r H9 (res1 rfl H9 rfl) ?_
  exact ⟨rfl, hN.gr⟩
end Go.Proofs.Yteinlgobadlgnaa
