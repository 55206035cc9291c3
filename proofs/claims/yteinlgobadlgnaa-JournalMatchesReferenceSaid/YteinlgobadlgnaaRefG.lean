/- The reference of the journal: what it puts together may be written. -/
import Derived.Test.YteinlgobadlgnaaLawLW
import Derived.Test.YteinlgobadlgnaaElem
set_option linter.unusedVariables false
set_option linter.unusedSimpArgs false
namespace Go.Proofs.Yteinlgobadlgnaa
open Go.RowKit


/-- A slice that a call has made, and that may still be written. -/
def OwnPost (I : Im) (w : World) (l rec : List Int) (v : Value) (w' : World) : Prop :=
  ∃ J, New I w J w' ∧ ∃ u, v = .agg #[u, .int .i64 (putErr l rec)] ∧ Apx (kInt .u8) J w' w.heap.size 5 u (putB l rec) ∧ (0 < (putB l rec).length → OwnK (kInt .u8) J w' w.heap.size 5 u (putB l rec))
theorem ownPost_err {I J : Im} {w w' : World} {l rec : List Int} {e : Int} (h : New I w J w') (he : putErr l rec = e) (hne : e ≠ 0) : OwnPost I w l rec (.agg #[.slice none 0 0, .int .i64 e]) w' := by
  have hb : putB l rec = [] := by unfold putB; rw [if_neg (by rw [he]; exact hne)]
  refine ⟨J, h, _, by rw [he], ?_, fun h0 => by rw [hb] at h0; simp at h0⟩
  rw [hb]
  exact .inl (OwnK.nil _ _ _ _ _)
theorem ownPost_ok {I J : Im} {w w' : World} {l rec : List Int} {v : Value} {B : Nat} (h : New I w J w') (hO : OwnK (kInt .u8) J w' B 5 v (l ++ encB (jall l 0).key rec)) (hB : w.heap.size ≤ B) (he : putErr l rec = 0) : OwnPost I w l rec (.agg #[v, .int .i64 0]) w' := by
  have e : putB l rec = l ++ encB (jall l 0).key rec := by unfold putB; rw [if_pos he]
  exact ⟨J, h, v, by rw [he], by rw [e]; exact .inl (hO.base hB), fun _ => by rw [e]; exact hO.base hB⟩

set_option maxRecDepth 100000 in
set_option maxHeartbeats 400000 in
theorem rputO {A R : Option Addr} {c cr : Nat} {l rec : List Int} {I : Im} {w : World} (hS : Sat I w) (hA : Els (kInt .u8) I A l) (hlc : l.length ≤ c) (hmax : l.length ≤ 16777216) (hR : Els (kInt .i64) I R rec) (hrc : rec.length ≤ cr) :
    Ret Try.prog 15 [.slice A l.length c, .slice R rec.length cr] w (OwnPost I w l rec) := by
  have hrm := hR.1
  refine ret_of (N := 36) Try.func15 rfl rfl rfl fun a0 H0 => ?_
  have hN := New.refl hS
  simp only [argsEnv, Nat.zero_add, Nat.reduceAdd] at H0
  refine wpIn_seq ?_
  refine w_reg ?_
  refine s_alloc H0 zv37 rfl hN fun w1 b4 hN gw1 hB4 hgeb4 heb4 a1 H1 => ?_
  clear H0 a0
  replace hB4 : Box _ _ _ [.slice none 0 0, .int .i64 0] 37 := hB4
  refine wl_end ?_
  refine th_n ?_
  refine wpIn_seq ?_
  refine wpIn_seq ?_
  refine w_reg ?_
  refine wl1 H1 (r_move rfl) rfl rfl rfl rfl fun a2 H2 => ?_
  clear H1 a1
  refine wl1 H2 (r_len Try.underlying29 rfl) rfl rfl rfl rfl fun a3 H3 => ?_
  clear H2 a2
  refine wl1 H3 (r_gtr rfl rfl) rfl rfl rfl rfl fun a4 H4 => ?_
  clear H3 a3
  refine wl_end ?_
  refine th_n ?_
  first | refine w_if H4 rfl (fun hc8 => ?_) (fun hc8 => ?_) | refine w_cond H4 rfl (fun hc8 => ?_) (fun hc8 => ?_)
  ·
    try simp only [decide_eq_true_eq, decide_eq_false_iff_not, Bool.or_eq_true, Bool.and_eq_true, Bool.or_eq_false_iff, Bool.and_eq_false_iff, Bool.not_eq_true', Bool.not_eq_false', Int.not_lt, Int.not_le, ne_eq, Decidable.not_not] at hc8
    refine wpIn_seq ?_
    refine w_reg ?_
    refine wl1 H4 (r_build (v := .agg #[.slice none 0 0, .int .i64 1]) rfl (fun w => by kernel_rfl)) rfl rfl rfl rfl fun a5 H5 => ?_
    clear H4 a4
    refine s_storeA (vs := [_, _]) H5 sz37 (by simp) (by simp [Value.oneCell']) rfl rfl hN hB4 (by simp) hgeb4 fun w2 hN hB4 ew2 H6 => ?_
    clear H5
    simp only [Nat.zero_add, Nat.add_zero, Nat.reduceAdd, Nat.reduceMul, List.set_cons_zero, List.set_cons_succ, spliceL] at hB4
    clear ew2
    refine wl_end ?_
    refine th_n ?_
    refine wpIn_ret ?_
    refine th_r ?_
    refine fin_r H6 (resC rfl H6 rfl hB4 ag37) ?_
    exact ownPost_err hN (by unfold putErr; rw [if_pos (by omega)]) (by decide)
  ·
    try simp only [decide_eq_true_eq, decide_eq_false_iff_not, Bool.or_eq_true, Bool.and_eq_true, Bool.or_eq_false_iff, Bool.and_eq_false_iff, Bool.not_eq_true', Bool.not_eq_false', Int.not_lt, Int.not_le, ne_eq, Decidable.not_not] at hc8
    refine wpIn_skip ?_
    refine th_n ?_
    refine wpIn_seq ?_
    refine w_reg ?_
    refine wl1 H4 (r_move rfl) rfl rfl rfl rfl fun a5 H7 => ?_
    clear H4 a4
    refine wlc  H7 rfl rfl hb13 rfl (rread hN.sat hA hlc hmax) fun v w3 hR a6 H8 => ?_
    clear H7 a5
    obtain ⟨J3, nw3, ⟨A1, c1, A2, c2, rfl, hc1, hE1, hc2, hE2⟩⟩ := hR
    replace hA := hA.up nw3.le
    replace hR := hR.up nw3.le
    replace hB4 := hB4.next nw3
    have hN := hN.trans nw3
    refine s_alloc H8 zv34 rfl hN fun w4 b5 hN gw4 hB5 hgeb5 heb5 a7 H9 => ?_
    clear H8 a6
    replace hB5 : Box _ _ _ [.slice none 0 0, .slice none 0 0, .int .i64 0, .int .i64 0, .int .u64 0] 34 := hB5
    have hne_hB4_b5 := hB4.lt
    rw [← heb5] at hne_hB4_b5
    replace hB4 := hB4.gr gw4
    refine s_storeA (vs := [_, _, _, _, _]) H9 sz34 (by simp) (by simp [Value.oneCell']) rfl rfl hN hB5 (by simp) hgeb5 fun w5 hN hB5 ew5 H10 => ?_
    clear H9
    replace hB4 := hB4.otherE ew5 (by omega)
    simp only [Nat.zero_add, Nat.add_zero, Nat.reduceAdd, Nat.reduceMul, List.set_cons_zero, List.set_cons_succ, spliceL] at hB5
    clear ew5
    refine wl_end ?_
    refine th_n ?_
    refine wpIn_seq ?_
    refine wpIn_seq ?_
    refine w_reg ?_
    refine wl1 H10 (r_fld fld34_2 rfl) rfl rfl rfl rfl fun a8 H11 => ?_
    clear H10 a7
    refine wl1 H11 (r_load sc31 rfl (hB5.cell rfl)) rfl rfl rfl rfl fun a9 H12 => ?_
    clear H11 a8
    refine wl1 H12 (r_neq rfl rfl) rfl rfl rfl rfl fun a10 H13 => ?_
    clear H12 a9
    refine wl_end ?_
    refine th_n ?_
    first | refine w_if H13 rfl (fun hc14 => ?_) (fun hc14 => ?_) | refine w_cond H13 rfl (fun hc14 => ?_) (fun hc14 => ?_)
    ·
      try simp only [decide_eq_true_eq, decide_eq_false_iff_not, Bool.or_eq_true, Bool.and_eq_true, Bool.or_eq_false_iff, Bool.and_eq_false_iff, Bool.not_eq_true', Bool.not_eq_false', Int.not_lt, Int.not_le, ne_eq, Decidable.not_not] at hc14
      have hoff : (jall l 0).off < l.length := by
        by_cases h : (jall l 0).off < l.length
        · exact h
        · exact absurd (if_neg h) hc14
      rw [if_pos hoff] at H13 hB5
      refine wpIn_seq ?_
      refine w_reg ?_
      refine wl1 H13 (r_fld fld34_2 rfl) rfl rfl rfl rfl fun a11 H14 => ?_
      clear H13 a10
      refine wl1 H14 (r_load sc31 rfl (hB5.cell rfl)) rfl rfl rfl rfl fun a12 H15 => ?_
      clear H14 a11
      refine wl1 H15 (r_build (v := .agg #[.slice none 0 0, .int .i64 60]) rfl (fun w => by kernel_rfl)) rfl rfl rfl rfl fun a13 H16 => ?_
      clear H15 a12
      refine s_storeA (vs := [_, _]) H16 sz37 (by simp) (by simp [Value.oneCell']) rfl rfl hN hB4 (by simp) hgeb4 fun w6 hN hB4 ew6 H17 => ?_
      clear H16
      replace hB5 := hB5.otherE ew6 (by omega)
      simp only [Nat.zero_add, Nat.add_zero, Nat.reduceAdd, Nat.reduceMul, List.set_cons_zero, List.set_cons_succ, spliceL] at hB4
      clear ew6
      refine wl_end ?_
      refine th_n ?_
      refine wpIn_ret ?_
      refine th_r ?_
      refine fin_r H17 (resC rfl H17 rfl hB4 ag37) ?_
      exact ownPost_err hN (by unfold putErr; rw [if_neg (by omega), if_pos hoff]) (by decide)
    ·
      try simp only [decide_eq_true_eq, decide_eq_false_iff_not, Bool.or_eq_true, Bool.and_eq_true, Bool.or_eq_false_iff, Bool.and_eq_false_iff, Bool.not_eq_true', Bool.not_eq_false', Int.not_lt, Int.not_le, ne_eq, Decidable.not_not] at hc14
      have hoff : ¬ (jall l 0).off < l.length := fun h => by rw [if_pos h] at hc14; cases hc14
      refine wpIn_skip ?_
      refine th_n ?_
      refine wpIn_seq ?_
      refine wpIn_seq ?_
      refine w_reg ?_
      refine wl1 H13 (r_move rfl) rfl rfl rfl rfl fun a11 H18 => ?_
      clear H13 a10
      refine wl1 H18 (r_len Try.underlying22 rfl) rfl rfl rfl rfl fun a12 H19 => ?_
      clear H18 a11
      first | refine wl1 H19 (r_addk rfl rfl (by simp only [InK]; omega)) rfl rfl rfl rfl fun a13 H20 => ?_ | refine wl1 H19 (r_add rfl rfl) rfl rfl rfl rfl fun a13 H20 => ?_
      clear H19 a12
      refine wl1 H20 (r_move rfl) rfl rfl rfl rfl fun a14 H21 => ?_
      clear H20 a13
      refine wl1 H21 (r_len Try.underlying29 rfl) rfl rfl rfl rfl fun a15 H22 => ?_
      clear H21 a14
      first | refine wl1 H22 (r_mulk rfl rfl (by simp only [InK]; omega)) rfl rfl rfl rfl fun a16 H23 => ?_ | refine wl1 H22 (r_mul rfl rfl) rfl rfl rfl rfl fun a16 H23 => ?_
      clear H22 a15
      first | refine wl1 H23 (r_addk rfl rfl (by simp only [InK]; omega)) rfl rfl rfl rfl fun a17 H24 => ?_ | refine wl1 H23 (r_add rfl rfl) rfl rfl rfl rfl fun a17 H24 => ?_
      clear H23 a16
      refine wl1 H24 (r_gtr rfl rfl) rfl rfl rfl rfl fun a18 H25 => ?_
      clear H24 a17
      refine wl_end ?_
      refine th_n ?_
      first | refine w_if H25 rfl (fun hc25 => ?_) (fun hc25 => ?_) | refine w_cond H25 rfl (fun hc25 => ?_) (fun hc25 => ?_)
      ·
        try simp only [decide_eq_true_eq, decide_eq_false_iff_not, Bool.or_eq_true, Bool.and_eq_true, Bool.or_eq_false_iff, Bool.and_eq_false_iff, Bool.not_eq_true', Bool.not_eq_false', Int.not_lt, Int.not_le, ne_eq, Decidable.not_not] at hc25
        refine wpIn_seq ?_
        refine w_reg ?_
        refine wl1 H25 (r_build (v := .agg #[.slice none 0 0, .int .i64 2]) rfl (fun w => by kernel_rfl)) rfl rfl rfl rfl fun a19 H26 => ?_
        clear H25 a18
        refine s_storeA (vs := [_, _]) H26 sz37 (by simp) (by simp [Value.oneCell']) rfl rfl hN hB4 (by simp) hgeb4 fun w7 hN hB4 ew7 H27 => ?_
        clear H26
        replace hB5 := hB5.otherE ew7 (by omega)
        simp only [Nat.zero_add, Nat.add_zero, Nat.reduceAdd, Nat.reduceMul, List.set_cons_zero, List.set_cons_succ, spliceL] at hB4
        clear ew7
        refine wl_end ?_
        refine th_n ?_
        refine wpIn_ret ?_
        refine th_r ?_
        refine fin_r H27 (resC rfl H27 rfl hB4 ag37) ?_
        exact ownPost_err hN (by unfold putErr; rw [if_neg (by omega), if_neg hoff, if_pos (by omega)]) (by decide)
      ·
        try simp only [decide_eq_true_eq, decide_eq_false_iff_not, Bool.or_eq_true, Bool.and_eq_true, Bool.or_eq_false_iff, Bool.and_eq_false_iff, Bool.not_eq_true', Bool.not_eq_false', Int.not_lt, Int.not_le, ne_eq, Decidable.not_not] at hc25
        obtain ⟨B, hBw⟩ : ∃ B, B = (w5).heap.size := ⟨_, rfl⟩
        have hltB4 := hB4.lt
        have hltB5 := hB5.lt
        refine wpIn_skip ?_
        refine th_n ?_
        refine wpIn_seq ?_
        have hS0 := hN.sat
        have hNsz8 := hN.gr.size
        refine w_drawE (m := 6) (l0 := [(0, _), (1, _), (4, _), (5, _)]) hfol H25 ⟨rfl, rfl, rfl, rfl, trivial⟩ (by kernel_rfl) ?_
        refine ⟨_, false, (fun σ ι w1 hg hd hon => by
            exact OpOK.sub (r := [(0, _), (1, _), (4, _), (5, _)]) ⟨rfl, rfl, rfl, rfl, trivial⟩ (by exact OpOK.litN (q := .u8) (xs := []) Try.underlying22 sz5 zv5 rfl rfl rfl (by simp))
            ), (fun σ v q w w' hg h => by obtain ⟨b, h1, h2⟩ := h; exact ⟨b, h1, h2.up (imOf_le hg)⟩), (FreeR.no _), ?_⟩
        refine ⟨_, false, (fun σ ι w1 hg hd hon => by
            exact OpOK.sub (r := [(0, _), (1, _), (4, _), (5, _)]) ⟨rfl, rfl, rfl, rfl, trivial⟩ (by
              exact OpOK.eq (r_move rfl))
            ), (fun _ _ _ _ _ _ h => h), (FreeR.no _), ?_⟩
        refine ⟨_, false, (fun σ ι w1 hg hd hon => by
            have hN := hN.ofGr ((Gr.refl _).drew.trans hg)
            have hB4 := hB4.gr ((Gr.refl _).drew.trans hg)
            have hB5 := hB5.gr ((Gr.refl _).drew.trans hg)
            have f0 := hd 0 (by decide) _ rfl
            have f1 := hd 1 (by decide) _ rfl
            obtain ⟨b27, e0, hE27⟩ := f0.1 trivial
            have e1 : σ 1 = _ := f1.1 trivial
            exact OpOK.sub (r := [(27, _), (28, _), (0, _), (1, _), (4, _), (5, _)]) ⟨congrArg some e0, congrArg some e1, rfl, rfl, rfl, rfl, trivial⟩ (by exact OpOK.app (d := kInt .u8) (J := J3) (B := B) rfl rfl Try.underlying22 nf5 rfl (by decide) (by decide) hN.sat (Els.nil _ _ _) rfl hA rfl (Nat.le_trans (Nat.le_of_eq hBw) hg.size) (by simp only [List.length_nil]; omega))
            ), (by intro σ v q w w' hg h; exact Apx.gr h hg), (FreeR.no _), ?_⟩
        refine ⟨_, false, (fun σ ι w1 hg hd hon => by
            exact OpOK.sub (r := [(0, _), (1, _), (4, _), (5, _)]) ⟨rfl, rfl, rfl, rfl, trivial⟩ (by
              exact OpOK.eq (r_fld fld34_4 rfl))
            ), (fun _ _ _ _ _ _ h => h), (FreeR.no _), ?_⟩
        refine ⟨_, false, (fun σ ι w1 hg hd hon => by
            have hN := hN.ofGr ((Gr.refl _).drew.trans hg)
            have hB4 := hB4.gr ((Gr.refl _).drew.trans hg)
            have hB5 := hB5.gr ((Gr.refl _).drew.trans hg)
            have f3 := hd 3 (by decide) _ rfl
            have e3 : σ 3 = _ := f3.1 trivial
            exact OpOK.sub (r := [(30, _), (0, _), (1, _), (4, _), (5, _)]) ⟨congrArg some e3, rfl, rfl, rfl, rfl, trivial⟩ (by
              exact OpOK.eq (r_load sc32 rfl (hB5.cell rfl)))
            ), (fun _ _ _ _ _ _ h => h), (FreeR.no _), ?_⟩
        refine ⟨_, false, (fun σ ι w1 hg hd hon => by
            exact OpOK.sub (r := [(0, _), (1, _), (4, _), (5, _)]) ⟨rfl, rfl, rfl, rfl, trivial⟩ (by
              exact OpOK.eq (r_move rfl))
            ), (fun _ _ _ _ _ _ h => h), (FreeR.no _), ?_⟩
        intro σ ι a19 w9 hgw9 H28 hd hap
        skip
        have hN0 := hN
        have hN := hN.ofGr ((Gr.refl _).drew.trans hgw9)
        replace hB4 := hB4.gr ((Gr.refl _).drew.trans hgw9)
        replace hB5 := hB5.gr ((Gr.refl _).drew.trans hgw9)
        have hO := (hd 2 (by decide) _ rfl).1 trivial
        try dsimp only at hO
        have e4 : σ 4 = _ := (hd 4 (by decide) _ rfl).1 trivial
        have e5 : σ 5 = _ := (hd 5 (by decide) _ rfl).1 trivial
        replace H28 := H28.sub (r := [(29, _), (31, _), (32, _), (0, _), (1, _), (4, _), (5, _)]) ⟨rfl, congrArg some e4, congrArg some e5, rfl, rfl, rfl, rfl, trivial⟩
        clear hd
        clear hap
        have hszB : B ≤ (w9).heap.size := Nat.le_trans (Nat.le_of_eq hBw) hgw9.size
        refine wlc  H28 rfl rfl hb28 rfl (renc hN.sat hR (by omega)) fun v w10 hR a20 H29 => ?_
        clear H28 a19
        obtain ⟨J10, nw10, ⟨A3, c3, rfl, hc3, hE3⟩⟩ := hR
        replace hA := hA.up nw10.le
        replace hR := hR.up nw10.le
        replace hB4 := hB4.next nw10
        replace hB5 := hB5.next nw10
        replace hO := hO.next nw10
        replace hszB := Nat.le_trans hszB nw10.gr.size
        have hN := hN.trans nw10
        refine s_app (B := B) H29 rfl rfl Try.underlying22 nf5 rfl (by decide) (by decide) rfl hN hO hE3 rfl (by omega) hszB (by simp only [List.length_append, List.length_nil, List.nil_append, encB_length]; omega) fun vw11 w11 hO hOO hOO2 kw11 hN a21 H30 => ?_
        clear H29 a20
        replace hB4 := hB4.keep kw11 (by omega)
        replace hB5 := hB5.keep kw11 (by omega)
        replace hszB := Nat.le_trans hszB kw11.size
        have hOw := hOO (by rw [encB_length]; omega)
        rw [List.nil_append] at hO hOw
        obtain ⟨AF, cF, hvF, _⟩ := hO.form
        subst hvF
        refine wl1 H30 (r_build (v := .agg #[.slice AF (l ++ encB (jall l 0).key rec).length cF, .int .i64 0]) rfl (fun w => by kernel_rfl)) rfl rfl rfl rfl fun a22 H31 => ?_
        clear H30 a21
        refine s_storeA (vs := [_, _]) H31 sz37 (by simp) (by have h1 := Apx.one hO; intro v hv; simp only [List.mem_cons, List.mem_nil_iff, or_false] at hv; rcases hv with rfl | rfl <;> first | exact h1 | rfl) rfl rfl hN hB4 (by simp) hgeb4 fun w12 hN hB4 ew12 H32 => ?_
        clear H31
        replace hB5 := hB5.otherE ew12 (by omega)
        replace hO := hO.otherE ew12 (by omega)
        replace hOw := hOw.otherE ew12 (by omega)
        replace hszB := sz_setB ew12 hszB
        simp only [Nat.zero_add, Nat.add_zero, Nat.reduceAdd, Nat.reduceMul, List.set_cons_zero, List.set_cons_succ, spliceL] at hB4
        clear ew12
        
        refine wl_end ?_
        refine th_n ?_
        refine wpIn_ret ?_
        refine fin_r H32 (resC rfl H32 rfl hB4 ag37) ?_
        exact ownPost_ok hN hOw (by omega) (by unfold putErr; rw [if_neg (by omega), if_neg hoff, if_neg (by omega)])
set_option maxRecDepth 100000 in
set_option maxHeartbeats 400000 in
theorem rjournalO {A : Option Addr} {c : Nat} {rs : List (List Int)} {I : Im} {w : World} (hS : Sat I w) (hA : Els (kSl (kInt .i64)) I A rs) :
    Ret Try.prog 11 [.slice A rs.length c] w (fun v w' => ∃ J, New I w J w' ∧ ∃ u, v = u ∧ Apx (kInt .u8) J w' w.heap.size 5 u (jfold rs) ∧ (0 < (jfold rs).length → OwnK (kInt .u8) J w' w.heap.size 5 u (jfold rs))) := by
  have hl9 := hA.1
  refine ret_of (N := 20) Try.func11 rfl rfl rfl fun a0 H0 => ?_
  have hN := New.refl hS
  simp only [argsEnv, Nat.zero_add, Nat.reduceAdd] at H0
  refine wpIn_seq ?_
  refine w_reg ?_
  refine wl1 H0 (r_assign rfl) rfl rfl rfl rfl fun a1 H1 => ?_
  clear H0 a0
  refine wl_end ?_
  refine th_n ?_
  refine wpIn_seq ?_
  refine w_reg ?_
  refine s_lit1 (cs := []) H1 Try.underlying22 sz5 zv5 rfl rfl rfl (by simp [Value.oneCell']) rfl hN fun w1 l5 K1 hKl5 hlel5 hN nw1 hgel5 a2 H2 => ?_
  clear H1 a1
  replace hA := hA.up nw1.le
  refine wl1 H2 (r_assign rfl) rfl rfl rfl rfl fun a3 H3 => ?_
  clear H2 a2
  refine wl_end ?_
  refine th_n ?_
  refine wpIn_seq ?_
  refine wpIn_seq ?_
  refine w_reg ?_
  refine wl1 H3 (r_assign rfl) rfl rfl rfl rfl fun a4 H4 => ?_
  clear H3 a3
  refine wl_end ?_
  refine th_n ?_
  refine wpIn_block ?_
  refine w_loop (ι := (Nat × Value) × Im) (fun xJ => (fun x => [(4, .int .i64 (x.1 : Int)), (3, x.2)]) xJ.1) (fun xJ W => Im.le K1 xJ.2 ∧ New I w xJ.2 W ∧ (fun x (J : Im) => x.1 ≤ rs.length ∧ Apx (kInt .u8) J W w.heap.size 5 x.2 (jfold (rs.take x.1)) ∧ (0 < (jfold (rs.take x.1)).length → OwnK (kInt .u8) J W w.heap.size 5 x.2 (jfold (rs.take x.1)))) xJ.1 xJ.2) (fun xJ => (fun x => rs.length - x.1) xJ.1) (l0 := [(0, _), (2, _)]) ((0, _), K1) H4 ⟨rfl, rfl, rfl, rfl, trivial⟩ ⟨Im.le.refl _, hN, Nat.zero_le _, .inr ⟨_, rfl, Els.nil _ _ _⟩, fun h => absurd h (by simp [jfold])⟩ ?_
  rintro ⟨⟨k, u⟩, J2⟩ a5 w2 H5 ⟨hleJ1, hN, hk, hO, hOw⟩
  clear H4 a4
  simp only [List.cons_append, List.nil_append] at H5
  try dsimp only at hleJ1
  try dsimp only at hN
  replace hA := hA.up hleJ1
  simp only at hk hO hOw H5
  try dsimp only at hO
  try dsimp only at hOw
  try dsimp only at hk
  refine wpIn_seq ?_
  refine wpIn_seq ?_
  refine w_reg ?_
  refine wl1 H5 (r_move rfl) rfl rfl rfl rfl fun a6 H6 => ?_
  clear H5 a5
  refine wl1 H6 (r_move rfl) rfl rfl rfl rfl fun a7 H7 => ?_
  clear H6 a6
  refine wl1 H7 (r_len Try.underlying23 rfl) rfl rfl rfl rfl fun a8 H8 => ?_
  clear H7 a7
  refine wl1 H8 (r_lss rfl rfl) rfl rfl rfl rfl fun a9 H9 => ?_
  clear H8 a8
  refine wl_end ?_
  refine th_n ?_
  first | refine w_if H9 rfl (fun hc9 => ?_) (fun hc9 => ?_) | refine w_cond H9 rfl (fun hc9 => ?_) (fun hc9 => ?_)
  ·
    try simp only [decide_eq_true_eq, decide_eq_false_iff_not, Bool.or_eq_true, Bool.and_eq_true, Bool.or_eq_false_iff, Bool.and_eq_false_iff, Bool.not_eq_true', Bool.not_eq_false', Int.not_lt, Int.not_le, ne_eq, Decidable.not_not] at hc9
    have hkl : k < rs.length := by omega
    have hjl := jfold_le (rs.take k)
    refine wpIn_skip ?_
    refine th_n ?_
    refine wpIn_seq ?_
    refine wpIn_block ?_
    refine w_reg ?_
    have hgb := hN.gr.size
    obtain ⟨Kz2, A1, cA1, hN, hleKz2, hsmKz2, rfl, hcA1, hE1⟩ := hO.freeze hN (Nat.le_refl _)
    replace hA := hA.up hleKz2
    replace hleJ1 := hleJ1.trans hleKz2
    refine wl1 H9 (r_move rfl) rfl rfl rfl rfl fun a10 H10 => ?_
    clear H9 a9
    obtain ⟨bA, oA, rfl⟩ := hA.form (by omega)
    obtain ⟨AA, cA, hcA, hlA, hEA⟩ := hA.rowAt hkl
    refine wl1 H10 (r_move rfl) rfl rfl rfl rfl fun a11 H11 => ?_
    clear H10 a10
    refine wl1 H11 (r_move rfl) rfl rfl rfl rfl fun a12 H12 => ?_
    clear H11 a11
    refine wl1 H12 (r_idx Try.underlying23 sz29 rfl rfl (i := k) rfl (by omega)) rfl rfl rfl rfl fun a13 H13 => ?_
    clear H12 a12
    refine wl1 H13 (r_load sc29 rfl (hN.sat.cell hcA)) rfl rfl rfl rfl fun a14 H14 => ?_
    clear H13 a13
    refine wlc  H14 rfl rfl hb15 rfl (rputO hN.sat hE1 hcA1 (by omega) hEA hlA) fun v w4 hR a15 H15 => ?_
    clear H14 a14
    obtain ⟨J4, nw4, ⟨u2, rfl, hO2, hOw2⟩⟩ := hR
    replace hA := hA.up nw4.le
    replace hE1 := hE1.up nw4.le
    replace hleJ1 := hleJ1.trans nw4.le
    have hN := hN.trans nw4
    rw [← jfold_take hkl] at hO2 hOw2
    refine wl1 H15 (r_fieldv 0 rfl rfl (by kernel_rfl)) rfl rfl rfl rfl fun a16 H16 => ?_
    clear H15 a15
    refine wl1 H16 (r_assign rfl) rfl rfl rfl rfl fun a17 H17 => ?_
    clear H16 a16
    refine wl_end ?_
    refine bl_n ?_
    refine th_n ?_
    refine w_reg ?_
    refine wl1 H17 (r_move rfl) rfl rfl rfl rfl fun a18 H18 => ?_
    clear H17 a17
    first | refine wl1 H18 (r_addk rfl rfl (by simp only [InK]; omega)) rfl rfl rfl rfl fun a19 H19 => ?_ | refine wl1 H18 (r_add rfl rfl) rfl rfl rfl rfl fun a19 H19 => ?_
    clear H18 a18
    refine wl1 H19 (r_assign rfl) rfl rfl rfl rfl fun a20 H20 => ?_
    clear H19 a19
    refine wl_end ?_
    exact th_n ⟨((k + 1, _), J4), (by show rs.length - (k + 1) < rs.length - k; omega), H20.sub ⟨rfl, rfl, rfl, rfl, trivial⟩, hleJ1, hN, by show k + 1 ≤ rs.length; omega, hO2.base (Nat.le_trans (Nat.le_refl _) hgb), fun h => (hOw2 h).base hgb⟩
  ·
    try simp only [decide_eq_true_eq, decide_eq_false_iff_not, Bool.or_eq_true, Bool.and_eq_true, Bool.or_eq_false_iff, Bool.and_eq_false_iff, Bool.not_eq_true', Bool.not_eq_false', Int.not_lt, Int.not_le, ne_eq, Decidable.not_not] at hc9
    refine wpIn_exit ?_
    refine th_x ?_
    refine th_x ?_
    refine bl_hit ?_
    refine th_n ?_
    refine wpIn_seq ?_
    refine w_reg ?_
    refine wl1 H9 (r_move rfl) rfl rfl rfl rfl fun a10 H21 => ?_
    clear H9 a9
    refine wl1 H21 (r_assign rfl) rfl rfl rfl rfl fun a11 H22 => ?_
    clear H21 a10
    refine wl_end ?_
    refine th_n ?_
    refine wpIn_ret ?_
    refine fin_r H22 (res1 rfl H22 rfl) ?_
    rw [List.take_of_length_le (by omega)] at hO hOw
    exact ⟨J2, hN, _, rfl, hO, hOw⟩
end Go.Proofs.Yteinlgobadlgnaa
