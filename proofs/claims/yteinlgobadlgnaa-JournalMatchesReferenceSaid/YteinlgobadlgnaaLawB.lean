/- The examples of the journal. -/
import Derived.Test.YteinlgobadlgnaaLawA
import Derived.Test.YteinlgobadlgnaaJouLaw2
set_option linter.unusedVariables false
set_option linter.unusedSimpArgs false
namespace Go.Proofs.Yteinlgobadlgnaa
open Go.RowKit


noncomputable def ex1 : List Int := chainB 0 [[5]]
noncomputable def ex2 : List Int := chainB 0 [[5], []]
theorem good_ex1 : good [[5]] := by intro r hr; simp at hr; subst hr; exact ⟨by decide, by intro x hx; simp at hx; subst hx; simp [InK]⟩
theorem good_ex2 : good [[5], []] := by
  intro r hr
  simp at hr
  rcases hr with rfl | rfl
  · exact good_ex1 _ (by simp)
  · exact ⟨by decide, by intro x hx; simp at hx⟩
theorem good_nil : good [] := fun _ h => by simp at h
theorem ex1_len : ex1.length = 32 := by rw [ex1, chainB_length]; rfl
theorem ex2_len : ex2.length = 56 := by rw [ex2, chainB_length]; rfl
theorem putErr_ex1 : putErr [] [5] = 0 := by have := putErr_chain (rs := []) (r := [5]) good_nil; simpa [chainB, lenR] using this
theorem putB_ex1 : putB [] [5] = ex1 := by have := putB_chain (rs := []) (r := [5]) good_nil (by simp) (by simp [lenR]); simpa [chainB, ex1] using this
theorem putErr_ex2 : putErr ex1 [] = 0 := by have := putErr_chain (rs := [[5]]) (r := []) good_ex1; simpa [lenR, ex1] using this
theorem putB_ex2 : putB ex1 [] = ex2 := putB_chain (rs := [[5]]) (r := []) good_ex1 (by simp) (by simp [lenR])
theorem ex1_eq : ex1 = encB 0 [5] ++ [] := rfl
theorem ex2_eq : ex2 = encB 0 [5] ++ (encB (dtag 0 [5]) [] ++ []) := rfl
theorem ex1_w0 : wordAt ex1 0 = 1 := by rw [ex1_eq, enc_n (good_ex1 _ (by simp))]; rfl
theorem ex1_w8 : wordAt ex1 8 = dtag 0 [1] := by rw [ex1_eq, enc_head]; rfl
theorem ex1_w16 : wordAt ex1 16 = 5 := by have := enc_el (key := 0) (rec := [5]) (m := []) (i := 0) (by simp); rw [← ex1_eq] at this; rw [show (16 : Nat) = 16 + 8 * 0 from rfl, this]; rfl
theorem ex1_w24 : wordAt ex1 24 = dtag 0 [5] := by rw [ex1_eq]; exact enc_last (key := 0) (rec := [5]) (m := [])
theorem ex2_w32 : wordAt ex2 32 = 0 := by
  have := wordAt_right (encB 0 [5]) (encB (dtag 0 [5]) [] ++ []) 0
  rw [encB_length] at this
  rw [ex2_eq]
  exact this.trans (by rw [enc_n (good_ex2 _ (by simp))]; rfl)
theorem ex2_w48 : wordAt ex2 48 = dtag (dtag 0 [5]) [] := by
  have := wordAt_right (encB 0 [5]) (encB (dtag 0 [5]) [] ++ []) 16
  rw [encB_length] at this
  rw [ex2_eq]
  exact this.trans (enc_last (key := dtag 0 [5]) (rec := []) (m := []))
theorem ex1_jall : jall ex1 0 = ⟨[[5]], 32, lastK 0 [[5]]⟩ := jall_chain' good_ex1
theorem ex2_jall : jall ex2 0 = ⟨[[5], []], 56, lastK 0 [[5], []]⟩ := jall_chain' good_ex2
theorem ex1_part : jall (ex1.take 31) 0 = ⟨[], 0, 0⟩ := jall_part (rs := [[5]]) (k := 0) good_ex1 (by simp) (by simp [lenR]) (by simp [lenR])
theorem ex2_part : jall (ex2.take 50) 0 = ⟨[[5]], 32, lastK 0 [[5]]⟩ := jall_part (rs := [[5], []]) (k := 1) good_ex2 (by simp) (by simp [lenR]) (by simp [lenR])
theorem ex1_err : (if 32 < ex1.length then (60 : Int) else 0) = 0 := by rw [ex1_len]; rfl
theorem ex2_err : (if 56 < ex2.length then (60 : Int) else 0) = 0 := by rw [ex2_len]; rfl
theorem ex1p_err : (if 0 < (ex1.take 31).length then (60 : Int) else 0) = 60 := by simp [ex1_len]
theorem putErr_part : putErr (ex1.take 31) [] = 60 := by
  unfold putErr
  rw [ex1_part, if_neg (by simp), if_pos (by simp [ex1_len])]
theorem putErr_long {l r : List Int} (h : 256 < r.length) : putErr l r = 1 := by unfold putErr; rw [if_pos h]

def LR (l : List Int) (J : Im) (v : Value) : Prop :=
  ∃ A1 c1 A2 c2, v = .agg #[.slice A1 (jall l 0).recs.length c1, .slice A2 (l.length - (jall l 0).off) c2, .int .i64 (if (jall l 0).off < l.length then 60 else 0), .int .i64 0, .int .u64 0] ∧
    (jall l 0).recs.length ≤ c1 ∧ Els (kSl (kInt .i64)) J A1 (jall l 0).recs ∧ l.length - (jall l 0).off ≤ c2 ∧ Els (kInt .u8) J A2 (l.drop (jall l 0).off)
theorem lreadΦ {A : Option Addr} {c : Nat} {l : List Int} {I : Im} {w : World} (hS : Sat I w) (hA : Els (kInt .u8) I A l) (hlc : l.length ≤ c) (hmax : l.length ≤ 16777216) : Ret Try.prog 12 [.slice A l.length c] w (fun u w' => ∃ K, New I w K w' ∧ LR l K u) := lread hS hA hlc hmax

set_option maxRecDepth 100000 in
set_option maxHeartbeats 400000 in
theorem examples_ret  {I : Im} {w : World} (hS : Sat I w)  :
    Ret Try.prog 9 [] w (fun v w' => v = .bool true ∧ Gr w w') := by
  refine ret_of (N := 161) Try.func9 rfl rfl rfl fun a0 H0 => ?_
  have hN := New.refl hS
  simp only [argsEnv, Nat.zero_add, Nat.reduceAdd] at H0
  refine wpIn_seq ?_
  refine w_reg ?_
  refine wl1 H0 (r_assign rfl) rfl rfl rfl rfl fun a1 H1 => ?_
  clear H0 a0
  refine wl_end ?_
  refine th_n ?_
  refine wpIn_seq ?_
  refine w_reg ?_
  refine s_lit1 (cs := [_]) H1 Try.underlying29 sz3 zv3 rfl rfl rfl (by simp [Value.oneCell']) rfl hN fun w1 l6 K1 hKl6 hlel6 hN nw1 hgel6 a2 H2 => ?_
  clear H1 a1
  have hE6 : Els (kInt .i64) K1 (some ⟨l6, 0, none⟩) [5] := Els.nums hKl6 (by simp) (by simp [InK])
  refine wlc  H2 rfl rfl hb14 rfl (lput (A := none) (c := 0) (l := []) (R := some ⟨l6, 0, none⟩) (rec := [5]) (cr := 1) hN.sat (Els.nil _ _ _) (Nat.le_refl _) (by simp) hE6 (Nat.le_refl _)) fun v w2 hR a3 H3 => ?_
  clear H2 a2
  obtain ⟨J2, nw2, ⟨A1, c1, rfl, hc1, hE1⟩⟩ := hR
  have hN := hN.trans nw2
  rw [putErr_ex1] at H3
  rw [putB_ex1] at H3 hc1 hE1
  refine s_alloc H3 zv37 rfl hN fun w3 b1 hN gw3 hB1 hgeb1 heb1 a4 H4 => ?_
  clear H3 a3
  replace hB1 : Box _ _ _ [.slice none 0 0, .int .i64 0] 37 := hB1
  refine s_storeA (vs := [_, _]) H4 sz37 (by simp) (by simp [Value.oneCell']) rfl rfl hN hB1 (by simp) hgeb1 fun w4 hN hB1 ew4 H5 => ?_
  clear H4
  simp only [Nat.zero_add, Nat.add_zero, Nat.reduceAdd, Nat.reduceMul, List.set_cons_zero, List.set_cons_succ, spliceL] at hB1
  clear ew4
  refine wl_end ?_
  refine th_n ?_
  refine wpIn_seq ?_
  refine w_reg ?_
  refine wl1 H5 (r_fld fld37_0 rfl) rfl rfl rfl rfl fun a5 H6 => ?_
  clear H5 a4
  refine wl1 H6 (r_load sc22 rfl (hB1.cell rfl)) rfl rfl rfl rfl fun a6 H7 => ?_
  clear H6 a5
  refine wlc  H7 rfl rfl hb14 rfl (lput (l := ex1) (R := none) (cr := 0) (rec := []) hN.sat hE1 hc1 (by rw [ex1_len]; omega) (Els.nil _ _ _) (Nat.le_refl _)) fun v w5 hR a7 H8 => ?_
  clear H7 a6
  obtain ⟨J5, nw5, ⟨A2, c2, rfl, hc2, hE2⟩⟩ := hR
  replace hE1 := hE1.up nw5.le
  replace hB1 := hB1.next nw5
  have hN := hN.trans nw5
  rw [putErr_ex2] at H8
  rw [putB_ex2] at H8 hc2 hE2
  refine s_alloc H8 zv37 rfl hN fun w6 b2 hN gw6 hB2 hgeb2 heb2 a8 H9 => ?_
  clear H8 a7
  replace hB2 : Box _ _ _ [.slice none 0 0, .int .i64 0] 37 := hB2
  have hne_hB1_b2 := hB1.lt
  rw [← heb2] at hne_hB1_b2
  replace hB1 := hB1.gr gw6
  refine s_storeA (vs := [_, _]) H9 sz37 (by simp) (by simp [Value.oneCell']) rfl rfl hN hB2 (by simp) hgeb2 fun w7 hN hB2 ew7 H10 => ?_
  clear H9
  replace hB1 := hB1.otherE ew7 (by omega)
  simp only [Nat.zero_add, Nat.add_zero, Nat.reduceAdd, Nat.reduceMul, List.set_cons_zero, List.set_cons_succ, spliceL] at hB2
  clear ew7
  refine wl_end ?_
  refine th_n ?_
  refine wpIn_seq ?_
  refine wpIn_seq ?_
  have hS0 := hN.sat
  have hNsz3 := hN.gr.size
  refine w_drawE (m := 64) (l0 := [(0, _), (1, _), (2, _)]) hfol H10 ⟨rfl, rfl, rfl, trivial⟩ (by kernel_rfl) ?_
  refine ⟨_, false, (fun σ ι w1 hg hd hon => by
      exact OpOK.sub (r := [(0, _), (1, _), (2, _)]) ⟨rfl, rfl, rfl, trivial⟩ (by
        exact OpOK.eq (r_fld fld37_1 rfl))
      ), (fun _ _ _ _ _ _ h => h), (FreeR.no _), ?_⟩
  refine ⟨_, false, (fun σ ι w1 hg hd hon => by
      have hN := hN.ofGr ((Gr.refl _).drew.trans hg)
      have hB1 := hB1.gr ((Gr.refl _).drew.trans hg)
      have hB2 := hB2.gr ((Gr.refl _).drew.trans hg)
      have f0 := hd 0 (by decide) _ rfl
      have e0 : σ 0 = _ := f0.1 trivial
      exact OpOK.sub (r := [(11, _), (0, _), (1, _), (2, _)]) ⟨congrArg some e0, rfl, rfl, rfl, trivial⟩ (by
        exact OpOK.eq (r_load sc31 rfl (hB1.cell rfl)))
      ), (fun _ _ _ _ _ _ h => h), (FreeR.no _), ?_⟩
  refine ⟨_, false, (fun σ ι w1 hg hd hon => by
      have f1 := hd 1 (by decide) _ rfl
      have e1 : σ 1 = _ := f1.1 trivial
      exact OpOK.sub (r := [(12, _), (0, _), (1, _), (2, _)]) ⟨congrArg some e1, rfl, rfl, rfl, trivial⟩ (by
        exact OpOK.eq (r_neq rfl rfl))
      ), (fun _ _ _ _ _ _ h => h), (FreeR.no _), ?_⟩
  refine ⟨_, false, (fun σ ι w1 hg hd hon => by
      have f2 := hd 2 (by decide) _ rfl
      have e2 : σ 2 = _ := f2.1 trivial
      exact OpOK.sub (r := [(13, _), (0, _), (1, _), (2, _)]) ⟨congrArg some e2, rfl, rfl, rfl, trivial⟩ (by
        exact OpOK.eq (r_move rfl))
      ), (fun _ _ _ _ _ _ h => h), (FreeR.no _), ?_⟩
  refine ⟨_, false, (fun σ ι w1 hg hd hon => by
      have f3 := hd 3 (by decide) _ rfl
      have e3 : σ 3 = _ := f3.1 trivial
      have hgd : σ 3 = .bool false := hon
      have hgb := (f3.1 trivial : σ 3 = _).symm.trans hgd
      simp only [Value.bool.injEq] at hgb
      try simp only [decide_eq_true_eq, decide_eq_false_iff_not, Bool.or_eq_true, Bool.and_eq_true, Bool.or_eq_false_iff, Bool.and_eq_false_iff, Bool.not_eq_true', Bool.not_eq_false', Int.not_lt, Int.not_le, ne_eq, Decidable.not_not] at hgb
      exact OpOK.sub (r := [(0, _), (1, _), (2, _)]) ⟨rfl, rfl, rfl, trivial⟩ (by
        exact OpOK.eq (r_fld fld37_1 rfl))
      ), (fun _ _ _ _ _ _ h => h), (FreeR.no _), ?_⟩
  refine ⟨_, false, (fun σ ι w1 hg hd hon => by
      have hN := hN.ofGr ((Gr.refl _).drew.trans hg)
      have hB1 := hB1.gr ((Gr.refl _).drew.trans hg)
      have hB2 := hB2.gr ((Gr.refl _).drew.trans hg)
      have f4 := hd 4 (by decide) _ rfl
      have f3 := hd 3 (by decide) _ rfl
      have e4 : σ 4 = _ := f4.1 hon
      have e3 : σ 3 = _ := f3.1 trivial
      have hgd : σ 3 = .bool false := hon
      have hgb := (f3.1 trivial : σ 3 = _).symm.trans hgd
      simp only [Value.bool.injEq] at hgb
      try simp only [decide_eq_true_eq, decide_eq_false_iff_not, Bool.or_eq_true, Bool.and_eq_true, Bool.or_eq_false_iff, Bool.and_eq_false_iff, Bool.not_eq_true', Bool.not_eq_false', Int.not_lt, Int.not_le, ne_eq, Decidable.not_not] at hgb
      exact OpOK.sub (r := [(15, _), (0, _), (1, _), (2, _)]) ⟨congrArg some e4, rfl, rfl, rfl, trivial⟩ (by
        exact OpOK.eq (r_load sc31 rfl (hB2.cell rfl)))
      ), (fun _ _ _ _ _ _ h => h), (FreeR.no _), ?_⟩
  refine ⟨_, false, (fun σ ι w1 hg hd hon => by
      have f5 := hd 5 (by decide) _ rfl
      have f3 := hd 3 (by decide) _ rfl
      have e5 : σ 5 = _ := f5.1 hon
      have e3 : σ 3 = _ := f3.1 trivial
      have hgd : σ 3 = .bool false := hon
      have hgb := (f3.1 trivial : σ 3 = _).symm.trans hgd
      simp only [Value.bool.injEq] at hgb
      try simp only [decide_eq_true_eq, decide_eq_false_iff_not, Bool.or_eq_true, Bool.and_eq_true, Bool.or_eq_false_iff, Bool.and_eq_false_iff, Bool.not_eq_true', Bool.not_eq_false', Int.not_lt, Int.not_le, ne_eq, Decidable.not_not] at hgb
      exact OpOK.sub (r := [(16, _), (0, _), (1, _), (2, _)]) ⟨congrArg some e5, rfl, rfl, rfl, trivial⟩ (by
        exact OpOK.eq (r_neq rfl rfl))
      ), (fun _ _ _ _ _ _ h => h), (FreeR.no _), ?_⟩
  refine ⟨_, false, (fun σ ι w1 hg hd hon => by
      have f3 := hd 3 (by decide) _ rfl
      have f6 := hd 6 (by decide) _ rfl
      have e3 : σ 3 = _ := f3.1 trivial
      have ec : σ 3 = _ := f3.1 trivial
      exact OpOK.id (by refine OpOK.or (dc := 14) (dy := 17) (kc := σ 3) (ky := σ 6) ?_ ?_ ec (fun hb => f6.1 (by show σ 3 = _; rw [ec]; exact congrArg Value.bool hb)) <;> rfl)
      ), (fun _ _ _ _ _ _ h => h), (FreeR.no _), ?_⟩
  refine ⟨_, false, (fun σ ι w1 hg hd hon => by
      have f7 := hd 7 (by decide) _ rfl
      have e7 : σ 7 = _ := f7.1 trivial
      exact OpOK.sub (r := [(18, _), (0, _), (1, _), (2, _)]) ⟨congrArg some e7, rfl, rfl, rfl, trivial⟩ (by
        exact OpOK.eq (r_move rfl))
      ), (fun _ _ _ _ _ _ h => h), (FreeR.no _), ?_⟩
  refine ⟨_, false, (fun σ ι w1 hg hd hon => by
      have f8 := hd 8 (by decide) _ rfl
      have e8 : σ 8 = _ := f8.1 trivial
      have hgd : σ 8 = .bool false := hon
      have hgb := (f8.1 trivial : σ 8 = _).symm.trans hgd
      simp only [Value.bool.injEq] at hgb
      try simp only [decide_eq_true_eq, decide_eq_false_iff_not, Bool.or_eq_true, Bool.and_eq_true, Bool.or_eq_false_iff, Bool.and_eq_false_iff, Bool.not_eq_true', Bool.not_eq_false', Int.not_lt, Int.not_le, ne_eq, Decidable.not_not] at hgb
      exact OpOK.sub (r := [(0, _), (1, _), (2, _)]) ⟨rfl, rfl, rfl, trivial⟩ (by
        exact OpOK.eq (r_fld fld37_0 rfl))
      ), (fun _ _ _ _ _ _ h => h), (FreeR.no _), ?_⟩
  refine ⟨_, false, (fun σ ι w1 hg hd hon => by
      have hN := hN.ofGr ((Gr.refl _).drew.trans hg)
      have hB1 := hB1.gr ((Gr.refl _).drew.trans hg)
      have hB2 := hB2.gr ((Gr.refl _).drew.trans hg)
      have f9 := hd 9 (by decide) _ rfl
      have f8 := hd 8 (by decide) _ rfl
      have e9 : σ 9 = _ := f9.1 hon
      have e8 : σ 8 = _ := f8.1 trivial
      have hgd : σ 8 = .bool false := hon
      have hgb := (f8.1 trivial : σ 8 = _).symm.trans hgd
      simp only [Value.bool.injEq] at hgb
      try simp only [decide_eq_true_eq, decide_eq_false_iff_not, Bool.or_eq_true, Bool.and_eq_true, Bool.or_eq_false_iff, Bool.and_eq_false_iff, Bool.not_eq_true', Bool.not_eq_false', Int.not_lt, Int.not_le, ne_eq, Decidable.not_not] at hgb
      exact OpOK.sub (r := [(20, _), (0, _), (1, _), (2, _)]) ⟨congrArg some e9, rfl, rfl, rfl, trivial⟩ (by
        exact OpOK.eq (r_load sc22 rfl (hB1.cell rfl)))
      ), (fun _ _ _ _ _ _ h => h), (FreeR.no _), ?_⟩
  refine ⟨_, false, (fun σ ι w1 hg hd hon => by
      have f10 := hd 10 (by decide) _ rfl
      have f8 := hd 8 (by decide) _ rfl
      have e10 : σ 10 = _ := f10.1 hon
      have e8 : σ 8 = _ := f8.1 trivial
      have hgd : σ 8 = .bool false := hon
      have hgb := (f8.1 trivial : σ 8 = _).symm.trans hgd
      simp only [Value.bool.injEq] at hgb
      try simp only [decide_eq_true_eq, decide_eq_false_iff_not, Bool.or_eq_true, Bool.and_eq_true, Bool.or_eq_false_iff, Bool.and_eq_false_iff, Bool.not_eq_true', Bool.not_eq_false', Int.not_lt, Int.not_le, ne_eq, Decidable.not_not] at hgb
      exact OpOK.sub (r := [(21, _), (0, _), (1, _), (2, _)]) ⟨congrArg some e10, rfl, rfl, rfl, trivial⟩ (by
        exact OpOK.eq (r_len Try.underlying22 rfl))
      ), (fun _ _ _ _ _ _ h => h), (FreeR.no _), ?_⟩
  refine ⟨_, false, (fun σ ι w1 hg hd hon => by
      have f11 := hd 11 (by decide) _ rfl
      have f8 := hd 8 (by decide) _ rfl
      have e11 : σ 11 = _ := f11.1 hon
      have e8 : σ 8 = _ := f8.1 trivial
      have hgd : σ 8 = .bool false := hon
      have hgb := (f8.1 trivial : σ 8 = _).symm.trans hgd
      simp only [Value.bool.injEq] at hgb
      try simp only [decide_eq_true_eq, decide_eq_false_iff_not, Bool.or_eq_true, Bool.and_eq_true, Bool.or_eq_false_iff, Bool.and_eq_false_iff, Bool.not_eq_true', Bool.not_eq_false', Int.not_lt, Int.not_le, ne_eq, Decidable.not_not] at hgb
      exact OpOK.sub (r := [(22, _), (0, _), (1, _), (2, _)]) ⟨congrArg some e11, rfl, rfl, rfl, trivial⟩ (by
        exact OpOK.eq (r_neq rfl rfl))
      ), (fun _ _ _ _ _ _ h => h), (FreeR.no _), ?_⟩
  refine ⟨_, false, (fun σ ι w1 hg hd hon => by
      have f8 := hd 8 (by decide) _ rfl
      have f12 := hd 12 (by decide) _ rfl
      have e8 : σ 8 = _ := f8.1 trivial
      have ec : σ 8 = _ := f8.1 trivial
      exact OpOK.id (by refine OpOK.or (dc := 19) (dy := 23) (kc := σ 8) (ky := σ 12) ?_ ?_ ec (fun hb => f12.1 (by show σ 8 = _; rw [ec]; exact congrArg Value.bool hb)) <;> rfl)
      ), (fun _ _ _ _ _ _ h => h), (FreeR.no _), ?_⟩
  refine ⟨_, false, (fun σ ι w1 hg hd hon => by
      have f13 := hd 13 (by decide) _ rfl
      have e13 : σ 13 = _ := f13.1 trivial
      exact OpOK.sub (r := [(24, _), (0, _), (1, _), (2, _)]) ⟨congrArg some e13, rfl, rfl, rfl, trivial⟩ (by
        exact OpOK.eq (r_move rfl))
      ), (fun _ _ _ _ _ _ h => h), (FreeR.no _), ?_⟩
  refine ⟨_, false, (fun σ ι w1 hg hd hon => by
      have f14 := hd 14 (by decide) _ rfl
      have e14 : σ 14 = _ := f14.1 trivial
      have hgd : σ 14 = .bool false := hon
      have hgb := (f14.1 trivial : σ 14 = _).symm.trans hgd
      simp only [Value.bool.injEq] at hgb
      try simp only [decide_eq_true_eq, decide_eq_false_iff_not, Bool.or_eq_true, Bool.and_eq_true, Bool.or_eq_false_iff, Bool.and_eq_false_iff, Bool.not_eq_true', Bool.not_eq_false', Int.not_lt, Int.not_le, ne_eq, Decidable.not_not] at hgb
      exact OpOK.sub (r := [(0, _), (1, _), (2, _)]) ⟨rfl, rfl, rfl, trivial⟩ (by
        exact OpOK.eq (r_fld fld37_0 rfl))
      ), (fun _ _ _ _ _ _ h => h), (FreeR.no _), ?_⟩
  refine ⟨_, false, (fun σ ι w1 hg hd hon => by
      have hN := hN.ofGr ((Gr.refl _).drew.trans hg)
      have hB1 := hB1.gr ((Gr.refl _).drew.trans hg)
      have hB2 := hB2.gr ((Gr.refl _).drew.trans hg)
      have f15 := hd 15 (by decide) _ rfl
      have f14 := hd 14 (by decide) _ rfl
      have e15 : σ 15 = _ := f15.1 hon
      have e14 : σ 14 = _ := f14.1 trivial
      have hgd : σ 14 = .bool false := hon
      have hgb := (f14.1 trivial : σ 14 = _).symm.trans hgd
      simp only [Value.bool.injEq] at hgb
      try simp only [decide_eq_true_eq, decide_eq_false_iff_not, Bool.or_eq_true, Bool.and_eq_true, Bool.or_eq_false_iff, Bool.and_eq_false_iff, Bool.not_eq_true', Bool.not_eq_false', Int.not_lt, Int.not_le, ne_eq, Decidable.not_not] at hgb
      exact OpOK.sub (r := [(26, _), (0, _), (1, _), (2, _)]) ⟨congrArg some e15, rfl, rfl, rfl, trivial⟩ (by
        exact OpOK.eq (r_load sc22 rfl (hB2.cell rfl)))
      ), (fun _ _ _ _ _ _ h => h), (FreeR.no _), ?_⟩
  refine ⟨_, false, (fun σ ι w1 hg hd hon => by
      have f16 := hd 16 (by decide) _ rfl
      have f14 := hd 14 (by decide) _ rfl
      have e16 : σ 16 = _ := f16.1 hon
      have e14 : σ 14 = _ := f14.1 trivial
      have hgd : σ 14 = .bool false := hon
      have hgb := (f14.1 trivial : σ 14 = _).symm.trans hgd
      simp only [Value.bool.injEq] at hgb
      try simp only [decide_eq_true_eq, decide_eq_false_iff_not, Bool.or_eq_true, Bool.and_eq_true, Bool.or_eq_false_iff, Bool.and_eq_false_iff, Bool.not_eq_true', Bool.not_eq_false', Int.not_lt, Int.not_le, ne_eq, Decidable.not_not] at hgb
      exact OpOK.sub (r := [(27, _), (0, _), (1, _), (2, _)]) ⟨congrArg some e16, rfl, rfl, rfl, trivial⟩ (by
        exact OpOK.eq (r_len Try.underlying22 rfl))
      ), (fun _ _ _ _ _ _ h => h), (FreeR.no _), ?_⟩
  refine ⟨_, false, (fun σ ι w1 hg hd hon => by
      have f17 := hd 17 (by decide) _ rfl
      have f14 := hd 14 (by decide) _ rfl
      have e17 : σ 17 = _ := f17.1 hon
      have e14 : σ 14 = _ := f14.1 trivial
      have hgd : σ 14 = .bool false := hon
      have hgb := (f14.1 trivial : σ 14 = _).symm.trans hgd
      simp only [Value.bool.injEq] at hgb
      try simp only [decide_eq_true_eq, decide_eq_false_iff_not, Bool.or_eq_true, Bool.and_eq_true, Bool.or_eq_false_iff, Bool.and_eq_false_iff, Bool.not_eq_true', Bool.not_eq_false', Int.not_lt, Int.not_le, ne_eq, Decidable.not_not] at hgb
      exact OpOK.sub (r := [(28, _), (0, _), (1, _), (2, _)]) ⟨congrArg some e17, rfl, rfl, rfl, trivial⟩ (by
        exact OpOK.eq (r_neq rfl rfl))
      ), (fun _ _ _ _ _ _ h => h), (FreeR.no _), ?_⟩
  refine ⟨_, false, (fun σ ι w1 hg hd hon => by
      have f14 := hd 14 (by decide) _ rfl
      have f18 := hd 18 (by decide) _ rfl
      have e14 : σ 14 = _ := f14.1 trivial
      have ec : σ 14 = _ := f14.1 trivial
      exact OpOK.id (by refine OpOK.or (dc := 25) (dy := 29) (kc := σ 14) (ky := σ 18) ?_ ?_ ec (fun hb => f18.1 (by show σ 14 = _; rw [ec]; exact congrArg Value.bool hb)) <;> rfl)
      ), (fun _ _ _ _ _ _ h => h), (FreeR.no _), ?_⟩
  refine ⟨_, false, (fun σ ι w1 hg hd hon => by
      have f19 := hd 19 (by decide) _ rfl
      have e19 : σ 19 = _ := f19.1 trivial
      exact OpOK.sub (r := [(30, _), (0, _), (1, _), (2, _)]) ⟨congrArg some e19, rfl, rfl, rfl, trivial⟩ (by
        exact OpOK.eq (r_move rfl))
      ), (fun _ _ _ _ _ _ h => h), (FreeR.no _), ?_⟩
  refine ⟨_, false, (fun σ ι w1 hg hd hon => by
      have f20 := hd 20 (by decide) _ rfl
      have e20 : σ 20 = _ := f20.1 trivial
      have hgd : σ 20 = .bool false := hon
      have hgb := (f20.1 trivial : σ 20 = _).symm.trans hgd
      simp only [Value.bool.injEq] at hgb
      try simp only [decide_eq_true_eq, decide_eq_false_iff_not, Bool.or_eq_true, Bool.and_eq_true, Bool.or_eq_false_iff, Bool.and_eq_false_iff, Bool.not_eq_true', Bool.not_eq_false', Int.not_lt, Int.not_le, ne_eq, Decidable.not_not] at hgb
      exact OpOK.sub (r := [(0, _), (1, _), (2, _)]) ⟨rfl, rfl, rfl, trivial⟩ (by
        exact OpOK.eq (r_fld fld37_0 rfl))
      ), (fun _ _ _ _ _ _ h => h), (FreeR.no _), ?_⟩
  refine ⟨_, false, (fun σ ι w1 hg hd hon => by
      have hN := hN.ofGr ((Gr.refl _).drew.trans hg)
      have hB1 := hB1.gr ((Gr.refl _).drew.trans hg)
      have hB2 := hB2.gr ((Gr.refl _).drew.trans hg)
      have f21 := hd 21 (by decide) _ rfl
      have f20 := hd 20 (by decide) _ rfl
      have e21 : σ 21 = _ := f21.1 hon
      have e20 : σ 20 = _ := f20.1 trivial
      have hgd : σ 20 = .bool false := hon
      have hgb := (f20.1 trivial : σ 20 = _).symm.trans hgd
      simp only [Value.bool.injEq] at hgb
      try simp only [decide_eq_true_eq, decide_eq_false_iff_not, Bool.or_eq_true, Bool.and_eq_true, Bool.or_eq_false_iff, Bool.and_eq_false_iff, Bool.not_eq_true', Bool.not_eq_false', Int.not_lt, Int.not_le, ne_eq, Decidable.not_not] at hgb
      exact OpOK.sub (r := [(32, _), (0, _), (1, _), (2, _)]) ⟨congrArg some e21, rfl, rfl, rfl, trivial⟩ (by
        exact OpOK.eq (r_load sc22 rfl (hB1.cell rfl)))
      ), (fun _ _ _ _ _ _ h => h), (FreeR.no _), ?_⟩
  refine ⟨_, true, (fun σ ι w1 hg hd hon => by
      have hN := hN.ofGr ((Gr.refl _).drew.trans hg)
      have hB1 := hB1.gr ((Gr.refl _).drew.trans hg)
      have hB2 := hB2.gr ((Gr.refl _).drew.trans hg)
      have f22 := hd 22 (by decide) _ rfl
      have f20 := hd 20 (by decide) _ rfl
      have e22 : σ 22 = _ := f22.1 hon
      have e20 : σ 20 = _ := f20.1 trivial
      have hgd : σ 20 = .bool false := hon
      have hgb := (f20.1 trivial : σ 20 = _).symm.trans hgd
      simp only [Value.bool.injEq] at hgb
      try simp only [decide_eq_true_eq, decide_eq_false_iff_not, Bool.or_eq_true, Bool.and_eq_true, Bool.or_eq_false_iff, Bool.and_eq_false_iff, Bool.not_eq_true', Bool.not_eq_false', Int.not_lt, Int.not_le, ne_eq, Decidable.not_not] at hgb
      skip
      exact CallOK.sub (r := [(33, _), (0, _), (1, _), (2, _)]) ⟨congrArg some e22, rfl, rfl, rfl, trivial⟩ (by
        exact CallOK.V (enters_of rfl rfl hb23) (lword (at_ := 0) hN.sat hE1 (by rw [ex1_len]; omega)))
      ), (fun _ _ _ _ _ _ h => h), (fun _ _ _ _ _ _ h => h), ?_⟩
  refine ⟨_, false, (fun σ ι w1 hg hd hon => by
      have f23 := hd 23 (by decide) _ rfl
      have f20 := hd 20 (by decide) _ rfl
      have e23 : σ 23 = _ := f23.1 hon
      have e20 : σ 20 = _ := f20.1 trivial
      have hgd : σ 20 = .bool false := hon
      have hgb := (f20.1 trivial : σ 20 = _).symm.trans hgd
      simp only [Value.bool.injEq] at hgb
      try simp only [decide_eq_true_eq, decide_eq_false_iff_not, Bool.or_eq_true, Bool.and_eq_true, Bool.or_eq_false_iff, Bool.and_eq_false_iff, Bool.not_eq_true', Bool.not_eq_false', Int.not_lt, Int.not_le, ne_eq, Decidable.not_not] at hgb
      exact OpOK.sub (r := [(34, _), (0, _), (1, _), (2, _)]) ⟨congrArg some e23, rfl, rfl, rfl, trivial⟩ (by
        exact OpOK.eq (r_neq rfl rfl))
      ), (fun _ _ _ _ _ _ h => h), (FreeR.no _), ?_⟩
  refine ⟨_, false, (fun σ ι w1 hg hd hon => by
      have f20 := hd 20 (by decide) _ rfl
      have f24 := hd 24 (by decide) _ rfl
      have e20 : σ 20 = _ := f20.1 trivial
      have ec : σ 20 = _ := f20.1 trivial
      exact OpOK.id (by refine OpOK.or (dc := 31) (dy := 35) (kc := σ 20) (ky := σ 24) ?_ ?_ ec (fun hb => f24.1 (by show σ 20 = _; rw [ec]; exact congrArg Value.bool hb)) <;> rfl)
      ), (fun _ _ _ _ _ _ h => h), (FreeR.no _), ?_⟩
  refine ⟨_, false, (fun σ ι w1 hg hd hon => by
      have f25 := hd 25 (by decide) _ rfl
      have e25 : σ 25 = _ := f25.1 trivial
      exact OpOK.sub (r := [(36, _), (0, _), (1, _), (2, _)]) ⟨congrArg some e25, rfl, rfl, rfl, trivial⟩ (by
        exact OpOK.eq (r_move rfl))
      ), (fun _ _ _ _ _ _ h => h), (FreeR.no _), ?_⟩
  refine ⟨_, false, (fun σ ι w1 hg hd hon => by
      have f26 := hd 26 (by decide) _ rfl
      have e26 : σ 26 = _ := f26.1 trivial
      have hgd : σ 26 = .bool false := hon
      have hgb := (f26.1 trivial : σ 26 = _).symm.trans hgd
      simp only [Value.bool.injEq] at hgb
      try simp only [decide_eq_true_eq, decide_eq_false_iff_not, Bool.or_eq_true, Bool.and_eq_true, Bool.or_eq_false_iff, Bool.and_eq_false_iff, Bool.not_eq_true', Bool.not_eq_false', Int.not_lt, Int.not_le, ne_eq, Decidable.not_not] at hgb
      exact OpOK.sub (r := [(0, _), (1, _), (2, _)]) ⟨rfl, rfl, rfl, trivial⟩ (by
        exact OpOK.eq (r_fld fld37_0 rfl))
      ), (fun _ _ _ _ _ _ h => h), (FreeR.no _), ?_⟩
  refine ⟨_, false, (fun σ ι w1 hg hd hon => by
      have hN := hN.ofGr ((Gr.refl _).drew.trans hg)
      have hB1 := hB1.gr ((Gr.refl _).drew.trans hg)
      have hB2 := hB2.gr ((Gr.refl _).drew.trans hg)
      have f27 := hd 27 (by decide) _ rfl
      have f26 := hd 26 (by decide) _ rfl
      have e27 : σ 27 = _ := f27.1 hon
      have e26 : σ 26 = _ := f26.1 trivial
      have hgd : σ 26 = .bool false := hon
      have hgb := (f26.1 trivial : σ 26 = _).symm.trans hgd
      simp only [Value.bool.injEq] at hgb
      try simp only [decide_eq_true_eq, decide_eq_false_iff_not, Bool.or_eq_true, Bool.and_eq_true, Bool.or_eq_false_iff, Bool.and_eq_false_iff, Bool.not_eq_true', Bool.not_eq_false', Int.not_lt, Int.not_le, ne_eq, Decidable.not_not] at hgb
      exact OpOK.sub (r := [(38, _), (0, _), (1, _), (2, _)]) ⟨congrArg some e27, rfl, rfl, rfl, trivial⟩ (by
        exact OpOK.eq (r_load sc22 rfl (hB1.cell rfl)))
      ), (fun _ _ _ _ _ _ h => h), (FreeR.no _), ?_⟩
  refine ⟨_, true, (fun σ ι w1 hg hd hon => by
      have hN := hN.ofGr ((Gr.refl _).drew.trans hg)
      have hB1 := hB1.gr ((Gr.refl _).drew.trans hg)
      have hB2 := hB2.gr ((Gr.refl _).drew.trans hg)
      have f28 := hd 28 (by decide) _ rfl
      have f26 := hd 26 (by decide) _ rfl
      have e28 : σ 28 = _ := f28.1 hon
      have e26 : σ 26 = _ := f26.1 trivial
      have hgd : σ 26 = .bool false := hon
      have hgb := (f26.1 trivial : σ 26 = _).symm.trans hgd
      simp only [Value.bool.injEq] at hgb
      try simp only [decide_eq_true_eq, decide_eq_false_iff_not, Bool.or_eq_true, Bool.and_eq_true, Bool.or_eq_false_iff, Bool.and_eq_false_iff, Bool.not_eq_true', Bool.not_eq_false', Int.not_lt, Int.not_le, ne_eq, Decidable.not_not] at hgb
      skip
      exact CallOK.sub (r := [(39, _), (0, _), (1, _), (2, _)]) ⟨congrArg some e28, rfl, rfl, rfl, trivial⟩ (by
        exact CallOK.V (enters_of rfl rfl hb23) (lword (at_ := 8) hN.sat hE1 (by rw [ex1_len]; omega)))
      ), (fun _ _ _ _ _ _ h => h), (fun _ _ _ _ _ _ h => h), ?_⟩
  refine ⟨_, false, (fun σ ι w1 hg hd hon => by
      have f26 := hd 26 (by decide) _ rfl
      have e26 : σ 26 = _ := f26.1 trivial
      have hgd : σ 26 = .bool false := hon
      have hgb := (f26.1 trivial : σ 26 = _).symm.trans hgd
      simp only [Value.bool.injEq] at hgb
      try simp only [decide_eq_true_eq, decide_eq_false_iff_not, Bool.or_eq_true, Bool.and_eq_true, Bool.or_eq_false_iff, Bool.and_eq_false_iff, Bool.not_eq_true', Bool.not_eq_false', Int.not_lt, Int.not_le, ne_eq, Decidable.not_not] at hgb
      exact OpOK.sub (r := [(0, _), (1, _), (2, _)]) ⟨rfl, rfl, rfl, trivial⟩ (by exact OpOK.litN (q := .i64) (xs := [1]) Try.underlying29 sz3 zv3 rfl rfl rfl (by simp [InK]))
      ), (fun σ v q w w' hg h => by obtain ⟨b, h1, h2⟩ := h; exact ⟨b, h1, h2.up (imOf_le hg)⟩), (FreeR.no _), ?_⟩
  refine ⟨_, true, (fun σ ι w1 hg hd hon => by
      have hN := hN.ofGr ((Gr.refl _).drew.trans hg)
      have hB1 := hB1.gr ((Gr.refl _).drew.trans hg)
      have hB2 := hB2.gr ((Gr.refl _).drew.trans hg)
      have f30 := hd 30 (by decide) _ rfl
      have f26 := hd 26 (by decide) _ rfl
      obtain ⟨b41, e30, hE41⟩ := f30.1 hon
      have e26 : σ 26 = _ := f26.1 trivial
      have hgd : σ 26 = .bool false := hon
      have hgb := (f26.1 trivial : σ 26 = _).symm.trans hgd
      simp only [Value.bool.injEq] at hgb
      try simp only [decide_eq_true_eq, decide_eq_false_iff_not, Bool.or_eq_true, Bool.and_eq_true, Bool.or_eq_false_iff, Bool.and_eq_false_iff, Bool.not_eq_true', Bool.not_eq_false', Int.not_lt, Int.not_le, ne_eq, Decidable.not_not] at hgb
      skip
      exact CallOK.sub (r := [(41, _), (0, _), (1, _), (2, _)]) ⟨congrArg some e30, rfl, rfl, rfl, trivial⟩ (by
        exact CallOK.V (enters_of rfl rfl hb24) (tag_ret' (I := imOf w1) (sat_imOf w1) hE41 rfl))
      ), (fun _ _ _ _ _ _ h => h), (fun _ _ _ _ _ _ h => h), ?_⟩
  refine ⟨_, false, (fun σ ι w1 hg hd hon => by
      have f29 := hd 29 (by decide) _ rfl
      have f31 := hd 31 (by decide) _ rfl
      have f26 := hd 26 (by decide) _ rfl
      have e29 : σ 29 = _ := f29.1 hon
      have e31 : σ 31 = _ := f31.1 hon
      have e26 : σ 26 = _ := f26.1 trivial
      have hgd : σ 26 = .bool false := hon
      have hgb := (f26.1 trivial : σ 26 = _).symm.trans hgd
      simp only [Value.bool.injEq] at hgb
      try simp only [decide_eq_true_eq, decide_eq_false_iff_not, Bool.or_eq_true, Bool.and_eq_true, Bool.or_eq_false_iff, Bool.and_eq_false_iff, Bool.not_eq_true', Bool.not_eq_false', Int.not_lt, Int.not_le, ne_eq, Decidable.not_not] at hgb
      exact OpOK.sub (r := [(40, _), (42, _), (0, _), (1, _), (2, _)]) ⟨congrArg some e29, congrArg some e31, rfl, rfl, rfl, trivial⟩ (by
        exact OpOK.eq (r_neq rfl rfl))
      ), (fun _ _ _ _ _ _ h => h), (FreeR.no _), ?_⟩
  refine ⟨_, false, (fun σ ι w1 hg hd hon => by
      have f26 := hd 26 (by decide) _ rfl
      have f32 := hd 32 (by decide) _ rfl
      have e26 : σ 26 = _ := f26.1 trivial
      have ec : σ 26 = _ := f26.1 trivial
      exact OpOK.id (by refine OpOK.or (dc := 37) (dy := 43) (kc := σ 26) (ky := σ 32) ?_ ?_ ec (fun hb => f32.1 (by show σ 26 = _; rw [ec]; exact congrArg Value.bool hb)) <;> rfl)
      ), (fun _ _ _ _ _ _ h => h), (FreeR.no _), ?_⟩
  refine ⟨_, false, (fun σ ι w1 hg hd hon => by
      have f33 := hd 33 (by decide) _ rfl
      have e33 : σ 33 = _ := f33.1 trivial
      exact OpOK.sub (r := [(44, _), (0, _), (1, _), (2, _)]) ⟨congrArg some e33, rfl, rfl, rfl, trivial⟩ (by
        exact OpOK.eq (r_move rfl))
      ), (fun _ _ _ _ _ _ h => h), (FreeR.no _), ?_⟩
  refine ⟨_, false, (fun σ ι w1 hg hd hon => by
      have f34 := hd 34 (by decide) _ rfl
      have e34 : σ 34 = _ := f34.1 trivial
      have hgd : σ 34 = .bool false := hon
      have hgb := (f34.1 trivial : σ 34 = _).symm.trans hgd
      simp only [Value.bool.injEq] at hgb
      try simp only [decide_eq_true_eq, decide_eq_false_iff_not, Bool.or_eq_true, Bool.and_eq_true, Bool.or_eq_false_iff, Bool.and_eq_false_iff, Bool.not_eq_true', Bool.not_eq_false', Int.not_lt, Int.not_le, ne_eq, Decidable.not_not] at hgb
      exact OpOK.sub (r := [(0, _), (1, _), (2, _)]) ⟨rfl, rfl, rfl, trivial⟩ (by
        exact OpOK.eq (r_fld fld37_0 rfl))
      ), (fun _ _ _ _ _ _ h => h), (FreeR.no _), ?_⟩
  refine ⟨_, false, (fun σ ι w1 hg hd hon => by
      have hN := hN.ofGr ((Gr.refl _).drew.trans hg)
      have hB1 := hB1.gr ((Gr.refl _).drew.trans hg)
      have hB2 := hB2.gr ((Gr.refl _).drew.trans hg)
      have f35 := hd 35 (by decide) _ rfl
      have f34 := hd 34 (by decide) _ rfl
      have e35 : σ 35 = _ := f35.1 hon
      have e34 : σ 34 = _ := f34.1 trivial
      have hgd : σ 34 = .bool false := hon
      have hgb := (f34.1 trivial : σ 34 = _).symm.trans hgd
      simp only [Value.bool.injEq] at hgb
      try simp only [decide_eq_true_eq, decide_eq_false_iff_not, Bool.or_eq_true, Bool.and_eq_true, Bool.or_eq_false_iff, Bool.and_eq_false_iff, Bool.not_eq_true', Bool.not_eq_false', Int.not_lt, Int.not_le, ne_eq, Decidable.not_not] at hgb
      exact OpOK.sub (r := [(46, _), (0, _), (1, _), (2, _)]) ⟨congrArg some e35, rfl, rfl, rfl, trivial⟩ (by
        exact OpOK.eq (r_load sc22 rfl (hB1.cell rfl)))
      ), (fun _ _ _ _ _ _ h => h), (FreeR.no _), ?_⟩
  refine ⟨_, true, (fun σ ι w1 hg hd hon => by
      have hN := hN.ofGr ((Gr.refl _).drew.trans hg)
      have hB1 := hB1.gr ((Gr.refl _).drew.trans hg)
      have hB2 := hB2.gr ((Gr.refl _).drew.trans hg)
      have f36 := hd 36 (by decide) _ rfl
      have f34 := hd 34 (by decide) _ rfl
      have e36 : σ 36 = _ := f36.1 hon
      have e34 : σ 34 = _ := f34.1 trivial
      have hgd : σ 34 = .bool false := hon
      have hgb := (f34.1 trivial : σ 34 = _).symm.trans hgd
      simp only [Value.bool.injEq] at hgb
      try simp only [decide_eq_true_eq, decide_eq_false_iff_not, Bool.or_eq_true, Bool.and_eq_true, Bool.or_eq_false_iff, Bool.and_eq_false_iff, Bool.not_eq_true', Bool.not_eq_false', Int.not_lt, Int.not_le, ne_eq, Decidable.not_not] at hgb
      skip
      exact CallOK.sub (r := [(47, _), (0, _), (1, _), (2, _)]) ⟨congrArg some e36, rfl, rfl, rfl, trivial⟩ (by
        exact CallOK.V (enters_of rfl rfl hb23) (lword (at_ := 16) hN.sat hE1 (by rw [ex1_len]; omega)))
      ), (fun _ _ _ _ _ _ h => h), (fun _ _ _ _ _ _ h => h), ?_⟩
  refine ⟨_, false, (fun σ ι w1 hg hd hon => by
      have f37 := hd 37 (by decide) _ rfl
      have f34 := hd 34 (by decide) _ rfl
      have e37 : σ 37 = _ := f37.1 hon
      have e34 : σ 34 = _ := f34.1 trivial
      have hgd : σ 34 = .bool false := hon
      have hgb := (f34.1 trivial : σ 34 = _).symm.trans hgd
      simp only [Value.bool.injEq] at hgb
      try simp only [decide_eq_true_eq, decide_eq_false_iff_not, Bool.or_eq_true, Bool.and_eq_true, Bool.or_eq_false_iff, Bool.and_eq_false_iff, Bool.not_eq_true', Bool.not_eq_false', Int.not_lt, Int.not_le, ne_eq, Decidable.not_not] at hgb
      exact OpOK.sub (r := [(48, _), (0, _), (1, _), (2, _)]) ⟨congrArg some e37, rfl, rfl, rfl, trivial⟩ (by
        exact OpOK.eq (r_neq rfl rfl))
      ), (fun _ _ _ _ _ _ h => h), (FreeR.no _), ?_⟩
  refine ⟨_, false, (fun σ ι w1 hg hd hon => by
      have f34 := hd 34 (by decide) _ rfl
      have f38 := hd 38 (by decide) _ rfl
      have e34 : σ 34 = _ := f34.1 trivial
      have ec : σ 34 = _ := f34.1 trivial
      exact OpOK.id (by refine OpOK.or (dc := 45) (dy := 49) (kc := σ 34) (ky := σ 38) ?_ ?_ ec (fun hb => f38.1 (by show σ 34 = _; rw [ec]; exact congrArg Value.bool hb)) <;> rfl)
      ), (fun _ _ _ _ _ _ h => h), (FreeR.no _), ?_⟩
  refine ⟨_, false, (fun σ ι w1 hg hd hon => by
      have f39 := hd 39 (by decide) _ rfl
      have e39 : σ 39 = _ := f39.1 trivial
      exact OpOK.sub (r := [(50, _), (0, _), (1, _), (2, _)]) ⟨congrArg some e39, rfl, rfl, rfl, trivial⟩ (by
        exact OpOK.eq (r_move rfl))
      ), (fun _ _ _ _ _ _ h => h), (FreeR.no _), ?_⟩
  refine ⟨_, false, (fun σ ι w1 hg hd hon => by
      have f40 := hd 40 (by decide) _ rfl
      have e40 : σ 40 = _ := f40.1 trivial
      have hgd : σ 40 = .bool false := hon
      have hgb := (f40.1 trivial : σ 40 = _).symm.trans hgd
      simp only [Value.bool.injEq] at hgb
      try simp only [decide_eq_true_eq, decide_eq_false_iff_not, Bool.or_eq_true, Bool.and_eq_true, Bool.or_eq_false_iff, Bool.and_eq_false_iff, Bool.not_eq_true', Bool.not_eq_false', Int.not_lt, Int.not_le, ne_eq, Decidable.not_not] at hgb
      exact OpOK.sub (r := [(0, _), (1, _), (2, _)]) ⟨rfl, rfl, rfl, trivial⟩ (by
        exact OpOK.eq (r_fld fld37_0 rfl))
      ), (fun _ _ _ _ _ _ h => h), (FreeR.no _), ?_⟩
  refine ⟨_, false, (fun σ ι w1 hg hd hon => by
      have hN := hN.ofGr ((Gr.refl _).drew.trans hg)
      have hB1 := hB1.gr ((Gr.refl _).drew.trans hg)
      have hB2 := hB2.gr ((Gr.refl _).drew.trans hg)
      have f41 := hd 41 (by decide) _ rfl
      have f40 := hd 40 (by decide) _ rfl
      have e41 : σ 41 = _ := f41.1 hon
      have e40 : σ 40 = _ := f40.1 trivial
      have hgd : σ 40 = .bool false := hon
      have hgb := (f40.1 trivial : σ 40 = _).symm.trans hgd
      simp only [Value.bool.injEq] at hgb
      try simp only [decide_eq_true_eq, decide_eq_false_iff_not, Bool.or_eq_true, Bool.and_eq_true, Bool.or_eq_false_iff, Bool.and_eq_false_iff, Bool.not_eq_true', Bool.not_eq_false', Int.not_lt, Int.not_le, ne_eq, Decidable.not_not] at hgb
      exact OpOK.sub (r := [(52, _), (0, _), (1, _), (2, _)]) ⟨congrArg some e41, rfl, rfl, rfl, trivial⟩ (by
        exact OpOK.eq (r_load sc22 rfl (hB1.cell rfl)))
      ), (fun _ _ _ _ _ _ h => h), (FreeR.no _), ?_⟩
  refine ⟨_, true, (fun σ ι w1 hg hd hon => by
      have hN := hN.ofGr ((Gr.refl _).drew.trans hg)
      have hB1 := hB1.gr ((Gr.refl _).drew.trans hg)
      have hB2 := hB2.gr ((Gr.refl _).drew.trans hg)
      have f42 := hd 42 (by decide) _ rfl
      have f40 := hd 40 (by decide) _ rfl
      have e42 : σ 42 = _ := f42.1 hon
      have e40 : σ 40 = _ := f40.1 trivial
      have hgd : σ 40 = .bool false := hon
      have hgb := (f40.1 trivial : σ 40 = _).symm.trans hgd
      simp only [Value.bool.injEq] at hgb
      try simp only [decide_eq_true_eq, decide_eq_false_iff_not, Bool.or_eq_true, Bool.and_eq_true, Bool.or_eq_false_iff, Bool.and_eq_false_iff, Bool.not_eq_true', Bool.not_eq_false', Int.not_lt, Int.not_le, ne_eq, Decidable.not_not] at hgb
      skip
      exact CallOK.sub (r := [(53, _), (0, _), (1, _), (2, _)]) ⟨congrArg some e42, rfl, rfl, rfl, trivial⟩ (by
        exact CallOK.V (enters_of rfl rfl hb23) (lword (at_ := 24) hN.sat hE1 (by rw [ex1_len]; omega)))
      ), (fun _ _ _ _ _ _ h => h), (fun _ _ _ _ _ _ h => h), ?_⟩
  refine ⟨_, false, (fun σ ι w1 hg hd hon => by
      have f40 := hd 40 (by decide) _ rfl
      have e40 : σ 40 = _ := f40.1 trivial
      have hgd : σ 40 = .bool false := hon
      have hgb := (f40.1 trivial : σ 40 = _).symm.trans hgd
      simp only [Value.bool.injEq] at hgb
      try simp only [decide_eq_true_eq, decide_eq_false_iff_not, Bool.or_eq_true, Bool.and_eq_true, Bool.or_eq_false_iff, Bool.and_eq_false_iff, Bool.not_eq_true', Bool.not_eq_false', Int.not_lt, Int.not_le, ne_eq, Decidable.not_not] at hgb
      exact OpOK.sub (r := [(0, _), (1, _), (2, _)]) ⟨rfl, rfl, rfl, trivial⟩ (by exact OpOK.litN (q := .i64) (xs := [5]) Try.underlying29 sz3 zv3 rfl rfl rfl (by simp [InK]))
      ), (fun σ v q w w' hg h => by obtain ⟨b, h1, h2⟩ := h; exact ⟨b, h1, h2.up (imOf_le hg)⟩), (FreeR.no _), ?_⟩
  refine ⟨_, true, (fun σ ι w1 hg hd hon => by
      have hN := hN.ofGr ((Gr.refl _).drew.trans hg)
      have hB1 := hB1.gr ((Gr.refl _).drew.trans hg)
      have hB2 := hB2.gr ((Gr.refl _).drew.trans hg)
      have f44 := hd 44 (by decide) _ rfl
      have f40 := hd 40 (by decide) _ rfl
      obtain ⟨b55, e44, hE55⟩ := f44.1 hon
      have e40 : σ 40 = _ := f40.1 trivial
      have hgd : σ 40 = .bool false := hon
      have hgb := (f40.1 trivial : σ 40 = _).symm.trans hgd
      simp only [Value.bool.injEq] at hgb
      try simp only [decide_eq_true_eq, decide_eq_false_iff_not, Bool.or_eq_true, Bool.and_eq_true, Bool.or_eq_false_iff, Bool.and_eq_false_iff, Bool.not_eq_true', Bool.not_eq_false', Int.not_lt, Int.not_le, ne_eq, Decidable.not_not] at hgb
      skip
      exact CallOK.sub (r := [(55, _), (0, _), (1, _), (2, _)]) ⟨congrArg some e44, rfl, rfl, rfl, trivial⟩ (by
        exact CallOK.V (enters_of rfl rfl hb24) (tag_ret' (I := imOf w1) (sat_imOf w1) hE55 rfl))
      ), (fun _ _ _ _ _ _ h => h), (fun _ _ _ _ _ _ h => h), ?_⟩
  refine ⟨_, false, (fun σ ι w1 hg hd hon => by
      have f43 := hd 43 (by decide) _ rfl
      have f45 := hd 45 (by decide) _ rfl
      have f40 := hd 40 (by decide) _ rfl
      have e43 : σ 43 = _ := f43.1 hon
      have e45 : σ 45 = _ := f45.1 hon
      have e40 : σ 40 = _ := f40.1 trivial
      have hgd : σ 40 = .bool false := hon
      have hgb := (f40.1 trivial : σ 40 = _).symm.trans hgd
      simp only [Value.bool.injEq] at hgb
      try simp only [decide_eq_true_eq, decide_eq_false_iff_not, Bool.or_eq_true, Bool.and_eq_true, Bool.or_eq_false_iff, Bool.and_eq_false_iff, Bool.not_eq_true', Bool.not_eq_false', Int.not_lt, Int.not_le, ne_eq, Decidable.not_not] at hgb
      exact OpOK.sub (r := [(54, _), (56, _), (0, _), (1, _), (2, _)]) ⟨congrArg some e43, congrArg some e45, rfl, rfl, rfl, trivial⟩ (by
        exact OpOK.eq (r_neq rfl rfl))
      ), (fun _ _ _ _ _ _ h => h), (FreeR.no _), ?_⟩
  refine ⟨_, false, (fun σ ι w1 hg hd hon => by
      have f40 := hd 40 (by decide) _ rfl
      have f46 := hd 46 (by decide) _ rfl
      have e40 : σ 40 = _ := f40.1 trivial
      have ec : σ 40 = _ := f40.1 trivial
      exact OpOK.id (by refine OpOK.or (dc := 51) (dy := 57) (kc := σ 40) (ky := σ 46) ?_ ?_ ec (fun hb => f46.1 (by show σ 40 = _; rw [ec]; exact congrArg Value.bool hb)) <;> rfl)
      ), (fun _ _ _ _ _ _ h => h), (FreeR.no _), ?_⟩
  refine ⟨_, false, (fun σ ι w1 hg hd hon => by
      have f47 := hd 47 (by decide) _ rfl
      have e47 : σ 47 = _ := f47.1 trivial
      exact OpOK.sub (r := [(58, _), (0, _), (1, _), (2, _)]) ⟨congrArg some e47, rfl, rfl, rfl, trivial⟩ (by
        exact OpOK.eq (r_move rfl))
      ), (fun _ _ _ _ _ _ h => h), (FreeR.no _), ?_⟩
  refine ⟨_, false, (fun σ ι w1 hg hd hon => by
      have f48 := hd 48 (by decide) _ rfl
      have e48 : σ 48 = _ := f48.1 trivial
      have hgd : σ 48 = .bool false := hon
      have hgb := (f48.1 trivial : σ 48 = _).symm.trans hgd
      simp only [Value.bool.injEq] at hgb
      try simp only [decide_eq_true_eq, decide_eq_false_iff_not, Bool.or_eq_true, Bool.and_eq_true, Bool.or_eq_false_iff, Bool.and_eq_false_iff, Bool.not_eq_true', Bool.not_eq_false', Int.not_lt, Int.not_le, ne_eq, Decidable.not_not] at hgb
      exact OpOK.sub (r := [(0, _), (1, _), (2, _)]) ⟨rfl, rfl, rfl, trivial⟩ (by
        exact OpOK.eq (r_fld fld37_0 rfl))
      ), (fun _ _ _ _ _ _ h => h), (FreeR.no _), ?_⟩
  refine ⟨_, false, (fun σ ι w1 hg hd hon => by
      have hN := hN.ofGr ((Gr.refl _).drew.trans hg)
      have hB1 := hB1.gr ((Gr.refl _).drew.trans hg)
      have hB2 := hB2.gr ((Gr.refl _).drew.trans hg)
      have f49 := hd 49 (by decide) _ rfl
      have f48 := hd 48 (by decide) _ rfl
      have e49 : σ 49 = _ := f49.1 hon
      have e48 : σ 48 = _ := f48.1 trivial
      have hgd : σ 48 = .bool false := hon
      have hgb := (f48.1 trivial : σ 48 = _).symm.trans hgd
      simp only [Value.bool.injEq] at hgb
      try simp only [decide_eq_true_eq, decide_eq_false_iff_not, Bool.or_eq_true, Bool.and_eq_true, Bool.or_eq_false_iff, Bool.and_eq_false_iff, Bool.not_eq_true', Bool.not_eq_false', Int.not_lt, Int.not_le, ne_eq, Decidable.not_not] at hgb
      exact OpOK.sub (r := [(60, _), (0, _), (1, _), (2, _)]) ⟨congrArg some e49, rfl, rfl, rfl, trivial⟩ (by
        exact OpOK.eq (r_load sc22 rfl (hB2.cell rfl)))
      ), (fun _ _ _ _ _ _ h => h), (FreeR.no _), ?_⟩
  refine ⟨_, true, (fun σ ι w1 hg hd hon => by
      have hN := hN.ofGr ((Gr.refl _).drew.trans hg)
      have hB1 := hB1.gr ((Gr.refl _).drew.trans hg)
      have hB2 := hB2.gr ((Gr.refl _).drew.trans hg)
      have f50 := hd 50 (by decide) _ rfl
      have f48 := hd 48 (by decide) _ rfl
      have e50 : σ 50 = _ := f50.1 hon
      have e48 : σ 48 = _ := f48.1 trivial
      have hgd : σ 48 = .bool false := hon
      have hgb := (f48.1 trivial : σ 48 = _).symm.trans hgd
      simp only [Value.bool.injEq] at hgb
      try simp only [decide_eq_true_eq, decide_eq_false_iff_not, Bool.or_eq_true, Bool.and_eq_true, Bool.or_eq_false_iff, Bool.and_eq_false_iff, Bool.not_eq_true', Bool.not_eq_false', Int.not_lt, Int.not_le, ne_eq, Decidable.not_not] at hgb
      skip
      exact CallOK.sub (r := [(61, _), (0, _), (1, _), (2, _)]) ⟨congrArg some e50, rfl, rfl, rfl, trivial⟩ (by
        exact CallOK.V (enters_of rfl rfl hb23) (lword (at_ := 32) hN.sat hE2 (by rw [ex2_len]; omega)))
      ), (fun _ _ _ _ _ _ h => h), (fun _ _ _ _ _ _ h => h), ?_⟩
  refine ⟨_, false, (fun σ ι w1 hg hd hon => by
      have f51 := hd 51 (by decide) _ rfl
      have f48 := hd 48 (by decide) _ rfl
      have e51 : σ 51 = _ := f51.1 hon
      have e48 : σ 48 = _ := f48.1 trivial
      have hgd : σ 48 = .bool false := hon
      have hgb := (f48.1 trivial : σ 48 = _).symm.trans hgd
      simp only [Value.bool.injEq] at hgb
      try simp only [decide_eq_true_eq, decide_eq_false_iff_not, Bool.or_eq_true, Bool.and_eq_true, Bool.or_eq_false_iff, Bool.and_eq_false_iff, Bool.not_eq_true', Bool.not_eq_false', Int.not_lt, Int.not_le, ne_eq, Decidable.not_not] at hgb
      exact OpOK.sub (r := [(62, _), (0, _), (1, _), (2, _)]) ⟨congrArg some e51, rfl, rfl, rfl, trivial⟩ (by
        exact OpOK.eq (r_neq rfl rfl))
      ), (fun _ _ _ _ _ _ h => h), (FreeR.no _), ?_⟩
  refine ⟨_, false, (fun σ ι w1 hg hd hon => by
      have f48 := hd 48 (by decide) _ rfl
      have f52 := hd 52 (by decide) _ rfl
      have e48 : σ 48 = _ := f48.1 trivial
      have ec : σ 48 = _ := f48.1 trivial
      exact OpOK.id (by refine OpOK.or (dc := 59) (dy := 63) (kc := σ 48) (ky := σ 52) ?_ ?_ ec (fun hb => f52.1 (by show σ 48 = _; rw [ec]; exact congrArg Value.bool hb)) <;> rfl)
      ), (fun _ _ _ _ _ _ h => h), (FreeR.no _), ?_⟩
  refine ⟨_, false, (fun σ ι w1 hg hd hon => by
      have f53 := hd 53 (by decide) _ rfl
      have e53 : σ 53 = _ := f53.1 trivial
      exact OpOK.sub (r := [(64, _), (0, _), (1, _), (2, _)]) ⟨congrArg some e53, rfl, rfl, rfl, trivial⟩ (by
        exact OpOK.eq (r_move rfl))
      ), (fun _ _ _ _ _ _ h => h), (FreeR.no _), ?_⟩
  refine ⟨_, false, (fun σ ι w1 hg hd hon => by
      have f54 := hd 54 (by decide) _ rfl
      have e54 : σ 54 = _ := f54.1 trivial
      have hgd : σ 54 = .bool false := hon
      have hgb := (f54.1 trivial : σ 54 = _).symm.trans hgd
      simp only [Value.bool.injEq] at hgb
      try simp only [decide_eq_true_eq, decide_eq_false_iff_not, Bool.or_eq_true, Bool.and_eq_true, Bool.or_eq_false_iff, Bool.and_eq_false_iff, Bool.not_eq_true', Bool.not_eq_false', Int.not_lt, Int.not_le, ne_eq, Decidable.not_not] at hgb
      exact OpOK.sub (r := [(0, _), (1, _), (2, _)]) ⟨rfl, rfl, rfl, trivial⟩ (by
        exact OpOK.eq (r_fld fld37_0 rfl))
      ), (fun _ _ _ _ _ _ h => h), (FreeR.no _), ?_⟩
  refine ⟨_, false, (fun σ ι w1 hg hd hon => by
      have hN := hN.ofGr ((Gr.refl _).drew.trans hg)
      have hB1 := hB1.gr ((Gr.refl _).drew.trans hg)
      have hB2 := hB2.gr ((Gr.refl _).drew.trans hg)
      have f55 := hd 55 (by decide) _ rfl
      have f54 := hd 54 (by decide) _ rfl
      have e55 : σ 55 = _ := f55.1 hon
      have e54 : σ 54 = _ := f54.1 trivial
      have hgd : σ 54 = .bool false := hon
      have hgb := (f54.1 trivial : σ 54 = _).symm.trans hgd
      simp only [Value.bool.injEq] at hgb
      try simp only [decide_eq_true_eq, decide_eq_false_iff_not, Bool.or_eq_true, Bool.and_eq_true, Bool.or_eq_false_iff, Bool.and_eq_false_iff, Bool.not_eq_true', Bool.not_eq_false', Int.not_lt, Int.not_le, ne_eq, Decidable.not_not] at hgb
      exact OpOK.sub (r := [(66, _), (0, _), (1, _), (2, _)]) ⟨congrArg some e55, rfl, rfl, rfl, trivial⟩ (by
        exact OpOK.eq (r_load sc22 rfl (hB2.cell rfl)))
      ), (fun _ _ _ _ _ _ h => h), (FreeR.no _), ?_⟩
  refine ⟨_, true, (fun σ ι w1 hg hd hon => by
      have hN := hN.ofGr ((Gr.refl _).drew.trans hg)
      have hB1 := hB1.gr ((Gr.refl _).drew.trans hg)
      have hB2 := hB2.gr ((Gr.refl _).drew.trans hg)
      have f56 := hd 56 (by decide) _ rfl
      have f54 := hd 54 (by decide) _ rfl
      have e56 : σ 56 = _ := f56.1 hon
      have e54 : σ 54 = _ := f54.1 trivial
      have hgd : σ 54 = .bool false := hon
      have hgb := (f54.1 trivial : σ 54 = _).symm.trans hgd
      simp only [Value.bool.injEq] at hgb
      try simp only [decide_eq_true_eq, decide_eq_false_iff_not, Bool.or_eq_true, Bool.and_eq_true, Bool.or_eq_false_iff, Bool.and_eq_false_iff, Bool.not_eq_true', Bool.not_eq_false', Int.not_lt, Int.not_le, ne_eq, Decidable.not_not] at hgb
      skip
      exact CallOK.sub (r := [(67, _), (0, _), (1, _), (2, _)]) ⟨congrArg some e56, rfl, rfl, rfl, trivial⟩ (by
        exact CallOK.V (enters_of rfl rfl hb23) (lword (at_ := 48) hN.sat hE2 (by rw [ex2_len]; omega)))
      ), (fun _ _ _ _ _ _ h => h), (fun _ _ _ _ _ _ h => h), ?_⟩
  refine ⟨_, false, (fun σ ι w1 hg hd hon => by
      have f54 := hd 54 (by decide) _ rfl
      have e54 : σ 54 = _ := f54.1 trivial
      have hgd : σ 54 = .bool false := hon
      have hgb := (f54.1 trivial : σ 54 = _).symm.trans hgd
      simp only [Value.bool.injEq] at hgb
      try simp only [decide_eq_true_eq, decide_eq_false_iff_not, Bool.or_eq_true, Bool.and_eq_true, Bool.or_eq_false_iff, Bool.and_eq_false_iff, Bool.not_eq_true', Bool.not_eq_false', Int.not_lt, Int.not_le, ne_eq, Decidable.not_not] at hgb
      exact OpOK.sub (r := [(0, _), (1, _), (2, _)]) ⟨rfl, rfl, rfl, trivial⟩ (by
        exact OpOK.eq (r_fld fld37_0 rfl))
      ), (fun _ _ _ _ _ _ h => h), (FreeR.no _), ?_⟩
  refine ⟨_, false, (fun σ ι w1 hg hd hon => by
      have hN := hN.ofGr ((Gr.refl _).drew.trans hg)
      have hB1 := hB1.gr ((Gr.refl _).drew.trans hg)
      have hB2 := hB2.gr ((Gr.refl _).drew.trans hg)
      have f58 := hd 58 (by decide) _ rfl
      have f54 := hd 54 (by decide) _ rfl
      have e58 : σ 58 = _ := f58.1 hon
      have e54 : σ 54 = _ := f54.1 trivial
      have hgd : σ 54 = .bool false := hon
      have hgb := (f54.1 trivial : σ 54 = _).symm.trans hgd
      simp only [Value.bool.injEq] at hgb
      try simp only [decide_eq_true_eq, decide_eq_false_iff_not, Bool.or_eq_true, Bool.and_eq_true, Bool.or_eq_false_iff, Bool.and_eq_false_iff, Bool.not_eq_true', Bool.not_eq_false', Int.not_lt, Int.not_le, ne_eq, Decidable.not_not] at hgb
      exact OpOK.sub (r := [(69, _), (0, _), (1, _), (2, _)]) ⟨congrArg some e58, rfl, rfl, rfl, trivial⟩ (by
        exact OpOK.eq (r_load sc22 rfl (hB1.cell rfl)))
      ), (fun _ _ _ _ _ _ h => h), (FreeR.no _), ?_⟩
  refine ⟨_, true, (fun σ ι w1 hg hd hon => by
      have hN := hN.ofGr ((Gr.refl _).drew.trans hg)
      have hB1 := hB1.gr ((Gr.refl _).drew.trans hg)
      have hB2 := hB2.gr ((Gr.refl _).drew.trans hg)
      have f59 := hd 59 (by decide) _ rfl
      have f54 := hd 54 (by decide) _ rfl
      have e59 : σ 59 = _ := f59.1 hon
      have e54 : σ 54 = _ := f54.1 trivial
      have hgd : σ 54 = .bool false := hon
      have hgb := (f54.1 trivial : σ 54 = _).symm.trans hgd
      simp only [Value.bool.injEq] at hgb
      try simp only [decide_eq_true_eq, decide_eq_false_iff_not, Bool.or_eq_true, Bool.and_eq_true, Bool.or_eq_false_iff, Bool.and_eq_false_iff, Bool.not_eq_true', Bool.not_eq_false', Int.not_lt, Int.not_le, ne_eq, Decidable.not_not] at hgb
      skip
      exact CallOK.sub (r := [(70, _), (0, _), (1, _), (2, _)]) ⟨congrArg some e59, rfl, rfl, rfl, trivial⟩ (by
        exact CallOK.V (enters_of rfl rfl hb23) (lword (at_ := 24) hN.sat hE1 (by rw [ex1_len]; omega)))
      ), (fun _ _ _ _ _ _ h => h), (fun _ _ _ _ _ _ h => h), ?_⟩
  refine ⟨_, true, (fun σ ι w1 hg hd hon => by
      have hN := hN.ofGr ((Gr.refl _).drew.trans hg)
      have hB1 := hB1.gr ((Gr.refl _).drew.trans hg)
      have hB2 := hB2.gr ((Gr.refl _).drew.trans hg)
      have f60 := hd 60 (by decide) _ rfl
      have f54 := hd 54 (by decide) _ rfl
      have e60 : σ 60 = _ := f60.1 hon
      have e54 : σ 54 = _ := f54.1 trivial
      have hgd : σ 54 = .bool false := hon
      have hgb := (f54.1 trivial : σ 54 = _).symm.trans hgd
      simp only [Value.bool.injEq] at hgb
      try simp only [decide_eq_true_eq, decide_eq_false_iff_not, Bool.or_eq_true, Bool.and_eq_true, Bool.or_eq_false_iff, Bool.and_eq_false_iff, Bool.not_eq_true', Bool.not_eq_false', Int.not_lt, Int.not_le, ne_eq, Decidable.not_not] at hgb
      skip
      exact CallOK.sub (r := [(71, _), (0, _), (1, _), (2, _)]) ⟨congrArg some e60, rfl, rfl, rfl, trivial⟩ (by
        exact CallOK.V (enters_of rfl rfl hb24) (tag_ret' (l := []) hN.sat (Els.nil _ _ none) rfl))
      ), (fun _ _ _ _ _ _ h => h), (fun _ _ _ _ _ _ h => h), ?_⟩
  refine ⟨_, false, (fun σ ι w1 hg hd hon => by
      have f57 := hd 57 (by decide) _ rfl
      have f61 := hd 61 (by decide) _ rfl
      have f54 := hd 54 (by decide) _ rfl
      have e57 : σ 57 = _ := f57.1 hon
      have e61 : σ 61 = _ := f61.1 hon
      have e54 : σ 54 = _ := f54.1 trivial
      have hgd : σ 54 = .bool false := hon
      have hgb := (f54.1 trivial : σ 54 = _).symm.trans hgd
      simp only [Value.bool.injEq] at hgb
      try simp only [decide_eq_true_eq, decide_eq_false_iff_not, Bool.or_eq_true, Bool.and_eq_true, Bool.or_eq_false_iff, Bool.and_eq_false_iff, Bool.not_eq_true', Bool.not_eq_false', Int.not_lt, Int.not_le, ne_eq, Decidable.not_not] at hgb
      exact OpOK.sub (r := [(68, _), (72, _), (0, _), (1, _), (2, _)]) ⟨congrArg some e57, congrArg some e61, rfl, rfl, rfl, trivial⟩ (by
        exact OpOK.eq (r_neq rfl rfl))
      ), (fun _ _ _ _ _ _ h => h), (FreeR.no _), ?_⟩
  refine ⟨_, false, (fun σ ι w1 hg hd hon => by
      have f54 := hd 54 (by decide) _ rfl
      have f62 := hd 62 (by decide) _ rfl
      have e54 : σ 54 = _ := f54.1 trivial
      have ec : σ 54 = _ := f54.1 trivial
      exact OpOK.id (by refine OpOK.or (dc := 65) (dy := 73) (kc := σ 54) (ky := σ 62) ?_ ?_ ec (fun hb => f62.1 (by show σ 54 = _; rw [ec]; exact congrArg Value.bool hb)) <;> rfl)
      ), (fun _ _ _ _ _ _ h => h), (FreeR.no _), ?_⟩
  intro σ ι a9 w9 hgw9 H11 hd hap
  skip
  have hN0 := hN
  have hN := hN.ofGr ((Gr.refl _).drew.trans hgw9)
  replace hB1 := hB1.gr ((Gr.refl _).drew.trans hgw9)
  replace hB2 := hB2.gr ((Gr.refl _).drew.trans hgw9)
  have e63 : σ 63 = _ := (hd 63 (by decide) _ rfl).1 trivial
  replace H11 := H11.sub (r := [(74, _), (0, _), (1, _), (2, _)]) ⟨congrArg some e63, rfl, rfl, rfl, trivial⟩
  clear hd
  replace H11 := H11.known (t := 74) (b := false) rfl (by simp [ex1_len, ex2_len, ex1_w0, ex1_w8, ex1_w16, ex1_w24, ex2_w32, ex2_w48])
  clear hap
  refine wl_end ?_
  refine th_n ?_
  refine w_ff H11 rfl rfl ?_
  refine wpIn_skip ?_
  refine th_n ?_
  refine wpIn_seq ?_
  have hS0 := hN.sat
  have hNsz5 := hN.gr.size
  have hlt_hB1_5 := hB1.lt
  have hlt_hB2_5 := hB2.lt
  refine w_drawE (m := 13) (l0 := [(0, _), (1, _), (2, _)]) hfol H11 ⟨rfl, rfl, rfl, trivial⟩ (by kernel_rfl) ?_
  refine ⟨_, false, (fun σ ι w1 hg hd hon => by
      exact OpOK.sub (r := [(0, _), (1, _), (2, _)]) ⟨rfl, rfl, rfl, trivial⟩ (by
        exact OpOK.eq (r_fld fld37_0 rfl))
      ), (fun _ _ _ _ _ _ h => h), (FreeR.no _), ?_⟩
  refine ⟨_, false, (fun σ ι w1 hg hd hon => by
      have hN := hN.ofGr ((Gr.refl _).drew.trans hg)
      have hB1 := hB1.gr ((Gr.refl _).drew.trans hg)
      have hB2 := hB2.gr ((Gr.refl _).drew.trans hg)
      have f0 := hd 0 (by decide) _ rfl
      have e0 : σ 0 = _ := f0.1 trivial
      exact OpOK.sub (r := [(75, _), (0, _), (1, _), (2, _)]) ⟨congrArg some e0, rfl, rfl, rfl, trivial⟩ (by
        exact OpOK.eq (r_load sc22 rfl (hB1.cell rfl)))
      ), (fun _ _ _ _ _ _ h => h), (FreeR.no _), ?_⟩
  refine ⟨_, true, (fun σ ι w1 hg hd hon => by
      have hN := hN.ofGr ((Gr.refl _).drew.trans hg)
      have hB1 := hB1.gr ((Gr.refl _).drew.trans hg)
      have hB2 := hB2.gr ((Gr.refl _).drew.trans hg)
      have f1 := hd 1 (by decide) _ rfl
      have e1 : σ 1 = _ := f1.1 trivial
      skip
      exact CallOK.sub (r := [(76, _), (0, _), (1, _), (2, _)]) ⟨congrArg some e1, rfl, rfl, rfl, trivial⟩ (by
        exact CallOK.M (Φ := LR ex1) (enters_of rfl rfl hb12) (lreadΦ (l := ex1) hN.sat hE1 hc1 (by rw [ex1_len]; omega)))
      ), (by exact monoOwn (J := J5) (Φ := fun _ => LR ex1)), (fun _ _ _ _ _ _ h => h), ?_⟩
  refine ⟨_, false, (fun σ ι w1 hg hd hon => by
      exact OpOK.sub (r := [(0, _), (1, _), (2, _)]) ⟨rfl, rfl, rfl, trivial⟩ (by
        exact OpOK.eq (r_fld fld37_0 rfl))
      ), (fun _ _ _ _ _ _ h => h), (FreeR.no _), ?_⟩
  refine ⟨_, false, (fun σ ι w1 hg hd hon => by
      have hN := hN.ofGr ((Gr.refl _).drew.trans hg)
      have hB1 := hB1.gr ((Gr.refl _).drew.trans hg)
      have hB2 := hB2.gr ((Gr.refl _).drew.trans hg)
      have f3 := hd 3 (by decide) _ rfl
      have e3 : σ 3 = _ := f3.1 trivial
      exact OpOK.sub (r := [(78, _), (0, _), (1, _), (2, _)]) ⟨congrArg some e3, rfl, rfl, rfl, trivial⟩ (by
        exact OpOK.eq (r_load sc22 rfl (hB2.cell rfl)))
      ), (fun _ _ _ _ _ _ h => h), (FreeR.no _), ?_⟩
  refine ⟨_, true, (fun σ ι w1 hg hd hon => by
      have hN := hN.ofGr ((Gr.refl _).drew.trans hg)
      have hB1 := hB1.gr ((Gr.refl _).drew.trans hg)
      have hB2 := hB2.gr ((Gr.refl _).drew.trans hg)
      have f4 := hd 4 (by decide) _ rfl
      have e4 : σ 4 = _ := f4.1 trivial
      skip
      exact CallOK.sub (r := [(79, _), (0, _), (1, _), (2, _)]) ⟨congrArg some e4, rfl, rfl, rfl, trivial⟩ (by
        exact CallOK.M (Φ := LR ex2) (enters_of rfl rfl hb12) (lreadΦ (l := ex2) hN.sat hE2 hc2 (by rw [ex2_len]; omega)))
      ), (by exact monoOwn (J := J5) (Φ := fun _ => LR ex2)), (fun _ _ _ _ _ _ h => h), ?_⟩
  refine ⟨_, false, (fun σ ι w1 hg hd hon => by
      exact OpOK.sub (r := [(0, _), (1, _), (2, _)]) ⟨rfl, rfl, rfl, trivial⟩ (by
        exact OpOK.eq (r_fld fld37_0 rfl))
      ), (fun _ _ _ _ _ _ h => h), (FreeR.no _), ?_⟩
  refine ⟨_, false, (fun σ ι w1 hg hd hon => by
      have hN := hN.ofGr ((Gr.refl _).drew.trans hg)
      have hB1 := hB1.gr ((Gr.refl _).drew.trans hg)
      have hB2 := hB2.gr ((Gr.refl _).drew.trans hg)
      have f6 := hd 6 (by decide) _ rfl
      have e6 : σ 6 = _ := f6.1 trivial
      exact OpOK.sub (r := [(81, _), (0, _), (1, _), (2, _)]) ⟨congrArg some e6, rfl, rfl, rfl, trivial⟩ (by
        exact OpOK.eq (r_load sc22 rfl (hB1.cell rfl)))
      ), (fun _ _ _ _ _ _ h => h), (FreeR.no _), ?_⟩
  refine ⟨_, false, (fun σ ι w1 hg hd hon => by
      have f7 := hd 7 (by decide) _ rfl
      have e7 : σ 7 = _ := f7.1 trivial
      exact OpOK.sub (r := [(82, _), (0, _), (1, _), (2, _)]) ⟨congrArg some e7, rfl, rfl, rfl, trivial⟩ (by
        exact OpOK.eq (r_upto (hi := (ex1.take 31).length) Try.underlying22 sz5 rfl rfl (by simp [ex1_len]) (by have := ex1_len; simp; omega)))
      ), (fun _ _ _ _ _ _ h => h), (FreeR.no _), ?_⟩
  refine ⟨_, true, (fun σ ι w1 hg hd hon => by
      have hN := hN.ofGr ((Gr.refl _).drew.trans hg)
      have hB1 := hB1.gr ((Gr.refl _).drew.trans hg)
      have hB2 := hB2.gr ((Gr.refl _).drew.trans hg)
      have f8 := hd 8 (by decide) _ rfl
      have e8 : σ 8 = _ := f8.1 trivial
      skip
      exact CallOK.sub (r := [(83, _), (0, _), (1, _), (2, _)]) ⟨congrArg some e8, rfl, rfl, rfl, trivial⟩ (by
        exact CallOK.M (Φ := LR (ex1.take 31)) (enters_of rfl rfl hb12) (lreadΦ (l := ex1.take 31) hN.sat (hE1.take 31) (by simp [ex1_len]; have := ex1_len; omega) (by simp [ex1_len])))
      ), (by exact monoOwn (J := J5) (Φ := fun _ => LR (ex1.take 31))), (fun _ _ _ _ _ _ h => h), ?_⟩
  refine ⟨_, false, (fun σ ι w1 hg hd hon => by
      exact OpOK.sub (r := [(0, _), (1, _), (2, _)]) ⟨rfl, rfl, rfl, trivial⟩ (by exact OpOK.alloc (cs := [.slice none 0 0, .slice none 0 0, .int .i64 0, .int .i64 0, .int .u64 0]) zv34 rfl)
      ), (by intro σ v q w w' hg h; obtain ⟨h1, h2, h3⟩ := h; exact ⟨h1, h2, h3.gr hg⟩), (FreeR.no _), ?_⟩
  refine ⟨_, false, (fun σ ι w1 hg hd hon => by
      exact OpOK.sub (r := [(0, _), (1, _), (2, _)]) ⟨rfl, rfl, rfl, trivial⟩ (by exact OpOK.alloc (cs := [.slice none 0 0, .slice none 0 0, .int .i64 0, .int .i64 0, .int .u64 0]) zv34 rfl)
      ), (by intro σ v q w w' hg h; obtain ⟨h1, h2, h3⟩ := h; exact ⟨h1, h2, h3.gr hg⟩), (FreeR.no _), ?_⟩
  refine ⟨_, false, (fun σ ι w1 hg hd hon => by
      exact OpOK.sub (r := [(0, _), (1, _), (2, _)]) ⟨rfl, rfl, rfl, trivial⟩ (by exact OpOK.alloc (cs := [.slice none 0 0, .slice none 0 0, .int .i64 0, .int .i64 0, .int .u64 0]) zv34 rfl)
      ), (by intro σ v q w w' hg h; obtain ⟨h1, h2, h3⟩ := h; exact ⟨h1, h2, h3.gr hg⟩), (FreeR.no _), ?_⟩
  intro σ ι a10 w11 hgw11 H12 hd hap
  skip
  have hN0 := hN
  have hN := hN.ofGr ((Gr.refl _).drew.trans hgw11)
  have hNd := (New.refl (hS0.drewS)).ofGr hgw11
  obtain ⟨K2, hP2, A3a, c3a, A3b, c3b, e2, hc3a, hE3a, hc3b, hE3b⟩ := (hd 2 (by decide) _ rfl).1 trivial
  replace hE3a := hE3a.up (joinI_right hNd.sat hP2.sat)
  replace hE3b := hE3b.up (joinI_right hNd.sat hP2.sat)
  replace hNd := hNd.part hNd.le hP2 (hap.1 2 (by decide)).1
  obtain ⟨K5, hP5, A4a, c4a, A4b, c4b, e5, hc4a, hE4a, hc4b, hE4b⟩ := (hd 5 (by decide) _ rfl).1 trivial
  replace hE4a := hE4a.up (joinI_right hNd.sat hP5.sat)
  replace hE4b := hE4b.up (joinI_right hNd.sat hP5.sat)
  replace hE3a := hE3a.up (joinI_left (joinI J5 K2) K5)
  replace hE3b := hE3b.up (joinI_left (joinI J5 K2) K5)
  replace hNd := hNd.part hNd.le hP5 (hap.1 5 (by decide)).1
  obtain ⟨K9, hP9, A5a, c5a, A5b, c5b, e9, hc5a, hE5a, hc5b, hE5b⟩ := (hd 9 (by decide) _ rfl).1 trivial
  replace hE5a := hE5a.up (joinI_right hNd.sat hP9.sat)
  replace hE5b := hE5b.up (joinI_right hNd.sat hP9.sat)
  replace hE3a := hE3a.up (joinI_left (joinI (joinI J5 K2) K5) K9)
  replace hE3b := hE3b.up (joinI_left (joinI (joinI J5 K2) K5) K9)
  replace hE4a := hE4a.up (joinI_left (joinI (joinI J5 K2) K5) K9)
  replace hE4b := hE4b.up (joinI_left (joinI (joinI J5 K2) K5) K9)
  replace hNd := hNd.part hNd.le hP9 (hap.1 9 (by decide)).1
  replace hB1 := (hB1.gr (Gr.refl _).drew).next hNd
  replace hB2 := (hB2.gr (Gr.refl _).drew).next hNd
  replace hE1 := hE1.up hNd.le
  replace hE2 := hE2.up hNd.le
  have hN := hN0.drew.trans hNd
  obtain ⟨e10, hlqb3, hblb3⟩ := (hd 10 (by decide) _ rfl).1 trivial
  have hg0b3 := (hap.1 10 (by decide)).1
  have hJ0b3 := hS0.fresh hg0b3
  have hB3 : Box (joinI (joinI (joinI J5 K2) K5) K9) w11 _ [.slice none 0 0, .slice none 0 0, .int .i64 0, .int .i64 0, .int .u64 0] 34 := ⟨hblb3, (joinI_none (joinI_none (joinI_none hJ0b3 (hP2.none hJ0b3 (by have := hap.2 2 10 (by decide) (by decide) (by decide); omega))) (hP5.none hJ0b3 (by have := hap.2 5 10 (by decide) (by decide) (by decide); omega))) (hP9.none hJ0b3 (by have := hap.2 9 10 (by decide) (by decide) (by decide); omega)))⟩
  obtain ⟨e11, hlqb4, hblb4⟩ := (hd 11 (by decide) _ rfl).1 trivial
  have hg0b4 := (hap.1 11 (by decide)).1
  have hJ0b4 := hS0.fresh hg0b4
  have hB4 : Box (joinI (joinI (joinI J5 K2) K5) K9) w11 _ [.slice none 0 0, .slice none 0 0, .int .i64 0, .int .i64 0, .int .u64 0] 34 := ⟨hblb4, (joinI_none (joinI_none (joinI_none hJ0b4 (hP2.none hJ0b4 (by have := hap.2 2 11 (by decide) (by decide) (by decide); omega))) (hP5.none hJ0b4 (by have := hap.2 5 11 (by decide) (by decide) (by decide); omega))) (hP9.none hJ0b4 (by have := hap.2 9 11 (by decide) (by decide) (by decide); omega)))⟩
  obtain ⟨e12, hlqb5, hblb5⟩ := (hd 12 (by decide) _ rfl).1 trivial
  have hg0b5 := (hap.1 12 (by decide)).1
  have hJ0b5 := hS0.fresh hg0b5
  have hB5 : Box (joinI (joinI (joinI J5 K2) K5) K9) w11 _ [.slice none 0 0, .slice none 0 0, .int .i64 0, .int .i64 0, .int .u64 0] 34 := ⟨hblb5, (joinI_none (joinI_none (joinI_none hJ0b5 (hP2.none hJ0b5 (by have := hap.2 2 12 (by decide) (by decide) (by decide); omega))) (hP5.none hJ0b5 (by have := hap.2 5 12 (by decide) (by decide) (by decide); omega))) (hP9.none hJ0b5 (by have := hap.2 9 12 (by decide) (by decide) (by decide); omega)))⟩
  replace H12 := H12.sub (r := [(77, _), (80, _), (84, _), (3, _), (4, _), (5, _), (0, _), (1, _), (2, _)]) ⟨congrArg some e2, congrArg some e5, congrArg some e9, congrArg some e10, congrArg some e11, congrArg some e12, rfl, rfl, rfl, trivial⟩
  clear hd
  have hne_hB3_b4 : (ι 10).1 ≠ (ι 11).1 := by have := hap.2 10 11 (by decide) (by decide) (by decide); omega
  have hne_hB3_b5 : (ι 10).1 ≠ (ι 12).1 := by have := hap.2 10 12 (by decide) (by decide) (by decide); omega
  have hne_hB4_b5 : (ι 11).1 ≠ (ι 12).1 := by have := hap.2 11 12 (by decide) (by decide) (by decide); omega
  have hgeb3 := Nat.le_trans hNsz5 hg0b3
  clear hlqb3 hblb3 hJ0b3
  have hne_hB1_b3 := Nat.lt_of_lt_of_le hlt_hB1_5 hg0b3
  have hne_hB2_b3 := Nat.lt_of_lt_of_le hlt_hB2_5 hg0b3
  have hgeb4 := Nat.le_trans hNsz5 hg0b4
  clear hlqb4 hblb4 hJ0b4
  have hne_hB1_b4 := Nat.lt_of_lt_of_le hlt_hB1_5 hg0b4
  have hne_hB2_b4 := Nat.lt_of_lt_of_le hlt_hB2_5 hg0b4
  have hgeb5 := Nat.le_trans hNsz5 hg0b5
  clear hlqb5 hblb5 hJ0b5
  have hne_hB1_b5 := Nat.lt_of_lt_of_le hlt_hB1_5 hg0b5
  have hne_hB2_b5 := Nat.lt_of_lt_of_le hlt_hB2_5 hg0b5
  generalize (ι 10).1 = b3 at *
  generalize (ι 11).1 = b4 at *
  generalize (ι 12).1 = b5 at *
  clear hap
  simp only [ex1_jall, ex2_jall, ex1_part, ex1_err, ex2_err, ex1p_err] at H12 hE3a hE3b hE4a hE4b hE5a hE5b
  refine s_storeA (vs := [_, _, _, _, _]) H12 sz34 (by simp) (by simp [Value.oneCell']) rfl rfl hN hB3 (by simp) hgeb3 fun w12 hN hB3 ew12 H13 => ?_
  clear H12
  replace hB1 := hB1.otherE ew12 (by omega)
  replace hB2 := hB2.otherE ew12 (by omega)
  replace hB4 := hB4.otherE ew12 (by omega)
  replace hB5 := hB5.otherE ew12 (by omega)
  simp only [Nat.zero_add, Nat.add_zero, Nat.reduceAdd, Nat.reduceMul, List.set_cons_zero, List.set_cons_succ, spliceL] at hB3
  clear ew12
  refine s_storeA (vs := [_, _, _, _, _]) H13 sz34 (by simp) (by simp [Value.oneCell']) rfl rfl hN hB4 (by simp) hgeb4 fun w13 hN hB4 ew13 H14 => ?_
  clear H13
  replace hB1 := hB1.otherE ew13 (by omega)
  replace hB2 := hB2.otherE ew13 (by omega)
  replace hB3 := hB3.otherE ew13 (by omega)
  replace hB5 := hB5.otherE ew13 (by omega)
  simp only [Nat.zero_add, Nat.add_zero, Nat.reduceAdd, Nat.reduceMul, List.set_cons_zero, List.set_cons_succ, spliceL] at hB4
  clear ew13
  refine s_storeA (vs := [_, _, _, _, _]) H14 sz34 (by simp) (by simp [Value.oneCell']) rfl rfl hN hB5 (by simp) hgeb5 fun w14 hN hB5 ew14 H15 => ?_
  clear H14
  replace hB1 := hB1.otherE ew14 (by omega)
  replace hB2 := hB2.otherE ew14 (by omega)
  replace hB3 := hB3.otherE ew14 (by omega)
  replace hB4 := hB4.otherE ew14 (by omega)
  simp only [Nat.zero_add, Nat.add_zero, Nat.reduceAdd, Nat.reduceMul, List.set_cons_zero, List.set_cons_succ, spliceL] at hB5
  clear ew14
  refine wl_end ?_
  refine th_n ?_
  refine wpIn_seq ?_
  refine w_reg ?_
  refine wl1 H15 (r_fld fld34_2 rfl) rfl rfl rfl rfl fun a11 H16 => ?_
  clear H15 a10
  refine wl1 H16 (r_load sc31 rfl (hB3.cell rfl)) rfl rfl rfl rfl fun a12 H17 => ?_
  clear H16 a11
  refine wl1 H17 (r_eql rfl rfl) rfl rfl rfl rfl fun a13 H18 => ?_
  clear H17 a12
  replace H18 := H18.known (t := 87) (b := true) rfl (by simp)
  refine wl1 H18 (r_move rfl) rfl rfl rfl rfl fun a14 H19 => ?_
  clear H18 a13
  refine wl_on (d := 88) H19 rfl rfl rfl ?_
  refine wl1 H19 (r_fld fld34_0 rfl) rfl rfl rfl rfl fun a15 H20 => ?_
  clear H19 a14
  refine wl_on (d := 88) H20 rfl rfl rfl ?_
  refine wl1 H20 (r_load sc23 rfl (hB3.cell rfl)) rfl rfl rfl rfl fun a16 H21 => ?_
  clear H20 a15
  refine wl_on (d := 88) H21 rfl rfl rfl ?_
  refine s_lit1 (cs := [_]) H21 Try.underlying29 sz3 zv3 rfl rfl rfl (by simp [Value.oneCell']) rfl hN fun w15 l91 K15 hKl91 hlel91 hN nw15 hgel91 a17 H22 => ?_
  clear H21 a16
  replace hE1 := hE1.up nw15.le
  replace hE2 := hE2.up nw15.le
  replace hE3a := hE3a.up nw15.le
  replace hE3b := hE3b.up nw15.le
  replace hE4a := hE4a.up nw15.le
  replace hE4b := hE4b.up nw15.le
  replace hE5a := hE5a.up nw15.le
  replace hE5b := hE5b.up nw15.le
  replace hB1 := hB1.next nw15
  replace hB2 := hB2.next nw15
  replace hB3 := hB3.next nw15
  replace hB4 := hB4.next nw15
  replace hB5 := hB5.next nw15
  have hE91 : Els (kInt .i64) K15 (some ⟨l91, 0, none⟩) [5] := Els.nums hKl91 (by simp) (by simp [InK])
  refine wl_on (d := 88) H22 rfl rfl rfl ?_
  refine s_lit1 (cs := [_]) H22 Try.underlying23 sz29 zv29 rfl rfl rfl (by simp [Value.oneCell']) rfl hN fun w16 l92 K16 hKl92 hlel92 hN nw16 hgel92 a18 H23 => ?_
  clear H22 a17
  replace hE1 := hE1.up nw16.le
  replace hE2 := hE2.up nw16.le
  replace hE3a := hE3a.up nw16.le
  replace hE3b := hE3b.up nw16.le
  replace hE4a := hE4a.up nw16.le
  replace hE4b := hE4b.up nw16.le
  replace hE5a := hE5a.up nw16.le
  replace hE5b := hE5b.up nw16.le
  replace hB1 := hB1.next nw16
  replace hB2 := hB2.next nw16
  replace hB3 := hB3.next nw16
  replace hB4 := hB4.next nw16
  replace hB5 := hB5.next nw16
  have hE92 : Els (kSl (kInt .i64)) K16 (some ⟨l92, 0, none⟩) [[5]] := Els.one hKl92 ⟨_, _, rfl, Nat.le_refl _, hE91.up nw16.le⟩
  refine wl_on (d := 88) H23 rfl rfl rfl ?_
  refine wlc  H23 rfl rfl hb16 rfl (rrecords (l := [[5]]) (m := [[5]]) hN.sat hE3a hE92) fun v w17 hR a19 H24 => ?_
  clear H23 a18
  obtain ⟨rfl, gw17⟩ := hR
  have hN := hN.ofGr gw17
  replace hB1 := hB1.gr gw17
  replace hB2 := hB2.gr gw17
  replace hB3 := hB3.gr gw17
  replace hB4 := hB4.gr gw17
  replace hB5 := hB5.gr gw17
  replace H24 := H24.known (t := 93) (b := true) rfl (by simp)
  refine wl1 H24 (r_pick_t rfl rfl) rfl rfl rfl rfl fun a20 H25 => ?_
  clear H24 a19
  refine wl1 H25 (r_move rfl) rfl rfl rfl rfl fun a21 H26 => ?_
  clear H25 a20
  refine wl_on (d := 95) H26 rfl rfl rfl ?_
  refine wl1 H26 (r_fld fld34_2 rfl) rfl rfl rfl rfl fun a22 H27 => ?_
  clear H26 a21
  refine wl_on (d := 95) H27 rfl rfl rfl ?_
  refine wl1 H27 (r_load sc31 rfl (hB4.cell rfl)) rfl rfl rfl rfl fun a23 H28 => ?_
  clear H27 a22
  refine wl_on (d := 95) H28 rfl rfl rfl ?_
  refine wl1 H28 (r_eql rfl rfl) rfl rfl rfl rfl fun a24 H29 => ?_
  clear H28 a23
  replace H29 := H29.known (t := 98) (b := true) rfl (by simp)
  refine wl1 H29 (r_pick_t rfl rfl) rfl rfl rfl rfl fun a25 H30 => ?_
  clear H29 a24
  refine wl1 H30 (r_move rfl) rfl rfl rfl rfl fun a26 H31 => ?_
  clear H30 a25
  refine wl_on (d := 100) H31 rfl rfl rfl ?_
  refine wl1 H31 (r_fld fld34_0 rfl) rfl rfl rfl rfl fun a27 H32 => ?_
  clear H31 a26
  refine wl_on (d := 100) H32 rfl rfl rfl ?_
  refine wl1 H32 (r_load sc23 rfl (hB4.cell rfl)) rfl rfl rfl rfl fun a28 H33 => ?_
  clear H32 a27
  refine wl_on (d := 100) H33 rfl rfl rfl ?_
  refine s_lit1 (cs := [_]) H33 Try.underlying29 sz3 zv3 rfl rfl rfl (by simp [Value.oneCell']) rfl hN fun w18 l103 K18 hKl103 hlel103 hN nw18 hgel103 a29 H34 => ?_
  clear H33 a28
  replace hE1 := hE1.up nw18.le
  replace hE2 := hE2.up nw18.le
  replace hE3a := hE3a.up nw18.le
  replace hE3b := hE3b.up nw18.le
  replace hE4a := hE4a.up nw18.le
  replace hE4b := hE4b.up nw18.le
  replace hE5a := hE5a.up nw18.le
  replace hE5b := hE5b.up nw18.le
  replace hB1 := hB1.next nw18
  replace hB2 := hB2.next nw18
  replace hB3 := hB3.next nw18
  replace hB4 := hB4.next nw18
  replace hB5 := hB5.next nw18
  have hE103 : Els (kInt .i64) K18 (some ⟨l103, 0, none⟩) [5] := Els.nums hKl103 (by simp) (by simp [InK])
  refine wl_on (d := 100) H34 rfl rfl rfl ?_
  refine s_lit1 (cs := []) H34 Try.underlying29 sz3 zv3 rfl rfl rfl (by simp [Value.oneCell']) rfl hN fun w19 l104 K19 hKl104 hlel104 hN nw19 hgel104 a30 H35 => ?_
  clear H34 a29
  replace hE1 := hE1.up nw19.le
  replace hE2 := hE2.up nw19.le
  replace hE3a := hE3a.up nw19.le
  replace hE3b := hE3b.up nw19.le
  replace hE4a := hE4a.up nw19.le
  replace hE4b := hE4b.up nw19.le
  replace hE5a := hE5a.up nw19.le
  replace hE5b := hE5b.up nw19.le
  replace hB1 := hB1.next nw19
  replace hB2 := hB2.next nw19
  replace hB3 := hB3.next nw19
  replace hB4 := hB4.next nw19
  replace hB5 := hB5.next nw19
  replace hE103 := hE103.up nw19.le
  refine wl_on (d := 100) H35 rfl rfl rfl ?_
  refine s_lit1 (cs := [_, _]) H35 Try.underlying23 sz29 zv29 rfl rfl rfl (by simp [Value.oneCell']) rfl hN fun w20 l105 K20 hKl105 hlel105 hN nw20 hgel105 a31 H36 => ?_
  clear H35 a30
  replace hE1 := hE1.up nw20.le
  replace hE2 := hE2.up nw20.le
  replace hE3a := hE3a.up nw20.le
  replace hE3b := hE3b.up nw20.le
  replace hE4a := hE4a.up nw20.le
  replace hE4b := hE4b.up nw20.le
  replace hE5a := hE5a.up nw20.le
  replace hE5b := hE5b.up nw20.le
  replace hB1 := hB1.next nw20
  replace hB2 := hB2.next nw20
  replace hB3 := hB3.next nw20
  replace hB4 := hB4.next nw20
  replace hB5 := hB5.next nw20
  have hE105 : Els (kSl (kInt .i64)) K20 (some ⟨l105, 0, none⟩) [[5], []] := Els.two (us := [_]) (vs := [_]) hKl105 ⟨_, _, rfl, Nat.le_refl _, hE103.up nw20.le⟩ ⟨_, _, rfl, Nat.le_refl _, Els.nil _ _ _⟩
  refine wl_on (d := 100) H36 rfl rfl rfl ?_
  refine wlc  H36 rfl rfl hb16 rfl (rrecords (l := [[5], []]) (m := [[5], []]) hN.sat hE4a hE105) fun v w21 hR a32 H37 => ?_
  clear H36 a31
  obtain ⟨rfl, gw21⟩ := hR
  have hN := hN.ofGr gw21
  replace hB1 := hB1.gr gw21
  replace hB2 := hB2.gr gw21
  replace hB3 := hB3.gr gw21
  replace hB4 := hB4.gr gw21
  replace hB5 := hB5.gr gw21
  replace H37 := H37.known (t := 106) (b := true) rfl (by simp)
  refine wl1 H37 (r_pick_t rfl rfl) rfl rfl rfl rfl fun a33 H38 => ?_
  clear H37 a32
  refine wl1 H38 (r_move rfl) rfl rfl rfl rfl fun a34 H39 => ?_
  clear H38 a33
  refine wl_on (d := 108) H39 rfl rfl rfl ?_
  refine wl1 H39 (r_fld fld34_2 rfl) rfl rfl rfl rfl fun a35 H40 => ?_
  clear H39 a34
  refine wl_on (d := 108) H40 rfl rfl rfl ?_
  refine wl1 H40 (r_load sc31 rfl (hB5.cell rfl)) rfl rfl rfl rfl fun a36 H41 => ?_
  clear H40 a35
  refine wl_on (d := 108) H41 rfl rfl rfl ?_
  refine wl1 H41 (r_eql rfl rfl) rfl rfl rfl rfl fun a37 H42 => ?_
  clear H41 a36
  replace H42 := H42.known (t := 111) (b := true) rfl (by simp)
  refine wl1 H42 (r_pick_t rfl rfl) rfl rfl rfl rfl fun a38 H43 => ?_
  clear H42 a37
  refine wl1 H43 (r_move rfl) rfl rfl rfl rfl fun a39 H44 => ?_
  clear H43 a38
  refine wl_on (d := 113) H44 rfl rfl rfl ?_
  refine wl1 H44 (r_fld fld34_0 rfl) rfl rfl rfl rfl fun a40 H45 => ?_
  clear H44 a39
  refine wl_on (d := 113) H45 rfl rfl rfl ?_
  refine wl1 H45 (r_load sc23 rfl (hB5.cell rfl)) rfl rfl rfl rfl fun a41 H46 => ?_
  clear H45 a40
  refine wl_on (d := 113) H46 rfl rfl rfl ?_
  refine wl1 H46 (r_len Try.underlying23 rfl) rfl rfl rfl rfl fun a42 H47 => ?_
  clear H46 a41
  refine wl_on (d := 113) H47 rfl rfl rfl ?_
  refine wl1 H47 (r_eql rfl rfl) rfl rfl rfl rfl fun a43 H48 => ?_
  clear H47 a42
  replace H48 := H48.known (t := 117) (b := true) rfl (by simp)
  refine wl1 H48 (r_pick_t rfl rfl) rfl rfl rfl rfl fun a44 H49 => ?_
  clear H48 a43
  refine wl1 H49 (r_move rfl) rfl rfl rfl rfl fun a45 H50 => ?_
  clear H49 a44
  refine wl_on (d := 119) H50 rfl rfl rfl ?_
  refine wl1 H50 (r_fld fld34_1 rfl) rfl rfl rfl rfl fun a46 H51 => ?_
  clear H50 a45
  refine wl_on (d := 119) H51 rfl rfl rfl ?_
  refine wl1 H51 (r_load sc22 rfl (hB5.cell rfl)) rfl rfl rfl rfl fun a47 H52 => ?_
  clear H51 a46
  refine wl_on (d := 119) H52 rfl rfl rfl ?_
  refine wl1 H52 (r_len Try.underlying22 rfl) rfl rfl rfl rfl fun a48 H53 => ?_
  clear H52 a47
  refine wl_on (d := 119) H53 rfl rfl rfl ?_
  refine wl1 H53 (r_eql rfl rfl) rfl rfl rfl rfl fun a49 H54 => ?_
  clear H53 a48
  replace H54 := H54.known (t := 123) (b := true) rfl (by simp [ex1_len])
  refine wl1 H54 (r_pick_t rfl rfl) rfl rfl rfl rfl fun a50 H55 => ?_
  clear H54 a49
  refine wl1 H55 (r_move rfl) rfl rfl rfl rfl fun a51 H56 => ?_
  clear H55 a50
  refine wl_on (d := 125) H56 rfl rfl rfl ?_
  refine wl1 H56 (r_fld fld37_0 rfl) rfl rfl rfl rfl fun a52 H57 => ?_
  clear H56 a51
  refine wl_on (d := 125) H57 rfl rfl rfl ?_
  refine wl1 H57 (r_load sc22 rfl (hB1.cell rfl)) rfl rfl rfl rfl fun a53 H58 => ?_
  clear H57 a52
  refine wl_on (d := 125) H58 rfl rfl rfl ?_
  refine wl1 H58 (r_upto (hi := (ex1.take 31).length) Try.underlying22 sz5 rfl rfl (by simp [ex1_len]) (by have := ex1_len; simp; omega)) rfl rfl rfl rfl fun a54 H59 => ?_
  clear H58 a53
  refine wl_on (d := 125) H59 rfl rfl rfl ?_
  refine wlc  H59 rfl rfl hb14 rfl (lput (R := none) (cr := 0) (l := ex1.take 31) (rec := []) hN.sat (hE1.take 31) (by simp [ex1_len]; have := ex1_len; omega) (by simp [ex1_len]) (Els.nil _ _ _) (Nat.le_refl _)) fun v w22 hR a55 H60 => ?_
  clear H59 a54
  obtain ⟨J22, nw22, ⟨A6, c6, rfl, hc6, hE6b⟩⟩ := hR
  replace hE1 := hE1.up nw22.le
  replace hE2 := hE2.up nw22.le
  replace hE3a := hE3a.up nw22.le
  replace hE3b := hE3b.up nw22.le
  replace hE4a := hE4a.up nw22.le
  replace hE4b := hE4b.up nw22.le
  replace hE5a := hE5a.up nw22.le
  replace hE5b := hE5b.up nw22.le
  replace hB1 := hB1.next nw22
  replace hB2 := hB2.next nw22
  replace hB3 := hB3.next nw22
  replace hB4 := hB4.next nw22
  replace hB5 := hB5.next nw22
  have hN := hN.trans nw22
  rw [putErr_part] at H60
  refine wl_on (d := 125) H60 rfl rfl rfl ?_
  refine wl1 H60 (r_fieldv 1 rfl rfl (by kernel_rfl)) rfl rfl rfl rfl fun a56 H61 => ?_
  clear H60 a55
  refine wl_on (d := 125) H61 rfl rfl rfl ?_
  refine wl1 H61 (r_eql rfl rfl) rfl rfl rfl rfl fun a57 H62 => ?_
  clear H61 a56
  replace H62 := H62.known (t := 131) (b := true) rfl (by simp)
  refine wl1 H62 (r_pick_t rfl rfl) rfl rfl rfl rfl fun a58 H63 => ?_
  clear H62 a57
  refine wl1 H63 (r_move rfl) rfl rfl rfl rfl fun a59 H64 => ?_
  clear H63 a58
  refine wl_on (d := 133) H64 rfl rfl rfl ?_
  refine s_make (c := 257) H64 Try.underlying29 nf3 rfl rfl rfl rfl (by omega) rfl rfl hN fun w23 br hN gw23 hBr hgebr hebr a60 H65 => ?_
  clear H64 a59
  have hne_hB1_br := hB1.lt
  rw [← hebr] at hne_hB1_br
  have hne_hB2_br := hB2.lt
  rw [← hebr] at hne_hB2_br
  have hne_hB3_br := hB3.lt
  rw [← hebr] at hne_hB3_br
  have hne_hB4_br := hB4.lt
  rw [← hebr] at hne_hB4_br
  have hne_hB5_br := hB5.lt
  rw [← hebr] at hne_hB5_br
  replace hB1 := hB1.gr gw23
  replace hB2 := hB2.gr gw23
  replace hB3 := hB3.gr gw23
  replace hB4 := hB4.gr gw23
  replace hB5 := hB5.gr gw23
  refine wl_on (d := 133) H65 rfl rfl rfl ?_
  obtain ⟨Kz23, hN, hEr, hleKz23, hsmKz23⟩ := hN.freezeInts (q := .i64) (xs := (List.replicate 257 0)) hBr (by rw [List.map_replicate]) hgebr (by simp) (by intro x hx; rw [List.eq_of_mem_replicate hx]; simp [InK])
  replace hB1 := hB1.same (hsmKz23 _ (by omega))
  replace hB2 := hB2.same (hsmKz23 _ (by omega))
  replace hB3 := hB3.same (hsmKz23 _ (by omega))
  replace hB4 := hB4.same (hsmKz23 _ (by omega))
  replace hB5 := hB5.same (hsmKz23 _ (by omega))
  replace hE1 := hE1.up hleKz23
  replace hE2 := hE2.up hleKz23
  replace hE3a := hE3a.up hleKz23
  replace hE3b := hE3b.up hleKz23
  replace hE4a := hE4a.up hleKz23
  replace hE4b := hE4b.up hleKz23
  replace hE5a := hE5a.up hleKz23
  replace hE5b := hE5b.up hleKz23
  refine wlc  H65 rfl rfl hb14 rfl (lput (A := none) (c := 0) (l := []) (rec := List.replicate 257 0) hN.sat (Els.nil _ _ _) (Nat.le_refl _) (by simp) hEr (by simp)) fun v w25 hR a61 H66 => ?_
  clear H65 a60
  obtain ⟨J25, nw25, ⟨A7, c7, rfl, hc7, hE7b⟩⟩ := hR
  replace hE1 := hE1.up nw25.le
  replace hE2 := hE2.up nw25.le
  replace hE3a := hE3a.up nw25.le
  replace hE3b := hE3b.up nw25.le
  replace hE4a := hE4a.up nw25.le
  replace hE4b := hE4b.up nw25.le
  replace hE5a := hE5a.up nw25.le
  replace hE5b := hE5b.up nw25.le
  replace hEr := hEr.up nw25.le
  replace hB1 := hB1.next nw25
  replace hB2 := hB2.next nw25
  replace hB3 := hB3.next nw25
  replace hB4 := hB4.next nw25
  replace hB5 := hB5.next nw25
  have hN := hN.trans nw25
  rw [putErr_long (by simp)] at H66
  refine wl_on (d := 133) H66 rfl rfl rfl ?_
  refine wl1 H66 (r_fieldv 1 rfl rfl (by kernel_rfl)) rfl rfl rfl rfl fun a62 H67 => ?_
  clear H66 a61
  refine wl_on (d := 133) H67 rfl rfl rfl ?_
  refine wl1 H67 (r_eql rfl rfl) rfl rfl rfl rfl fun a63 H68 => ?_
  clear H67 a62
  replace H68 := H68.known (t := 137) (b := true) rfl (by simp)
  refine wl1 H68 (r_pick_t rfl rfl) rfl rfl rfl rfl fun a64 H69 => ?_
  clear H68 a63
  refine wl1 H69 (r_move rfl) rfl rfl rfl rfl fun a65 H70 => ?_
  clear H69 a64
  refine wl_on (d := 139) H70 rfl rfl rfl ?_
  refine wl1 H70 (r_fld fld37_0 rfl) rfl rfl rfl rfl fun a66 H71 => ?_
  clear H70 a65
  refine wl_on (d := 139) H71 rfl rfl rfl ?_
  refine wl1 H71 (r_load sc22 rfl (hB2.cell rfl)) rfl rfl rfl rfl fun a67 H72 => ?_
  clear H71 a66
  refine wl_on (d := 139) H72 rfl rfl rfl ?_
  refine wl1 H72 (r_upto (hi := (ex2.take 50).length) Try.underlying22 sz5 rfl rfl (by simp [ex2_len]) (by have := ex2_len; simp; omega)) rfl rfl rfl rfl fun a68 H73 => ?_
  clear H72 a67
  refine wl_on (d := 139) H73 rfl rfl rfl ?_
  refine wlc  H73 rfl rfl hb18 rfl (jwhole (l := ex2.take 50) hN.sat (hE2.take 50) (by simp [ex2_len]; have := ex2_len; omega) (by simp [ex2_len])) fun v w26 hR a69 H74 => ?_
  clear H73 a68
  obtain ⟨rfl, gw26⟩ := hR
  have hN := hN.ofGr gw26
  replace hB1 := hB1.gr gw26
  replace hB2 := hB2.gr gw26
  replace hB3 := hB3.gr gw26
  replace hB4 := hB4.gr gw26
  replace hB5 := hB5.gr gw26
  rw [ex2_part] at H74
  refine wl_on (d := 139) H74 rfl rfl rfl ?_
  refine wl1 H74 (r_len Try.underlying22 rfl) rfl rfl rfl rfl fun a70 H75 => ?_
  clear H74 a69
  refine wl_on (d := 139) H75 rfl rfl rfl ?_
  refine wl1 H75 (r_eql rfl rfl) rfl rfl rfl rfl fun a71 H76 => ?_
  clear H75 a70
  replace H76 := H76.known (t := 145) (b := true) rfl (by simp)
  refine wl1 H76 (r_pick_t rfl rfl) rfl rfl rfl rfl fun a72 H77 => ?_
  clear H76 a71
  refine wl1 H77 (r_move rfl) rfl rfl rfl rfl fun a73 H78 => ?_
  clear H77 a72
  refine wl_on (d := 147) H78 rfl rfl rfl ?_
  refine wl1 H78 (r_fld fld37_0 rfl) rfl rfl rfl rfl fun a74 H79 => ?_
  clear H78 a73
  refine wl_on (d := 147) H79 rfl rfl rfl ?_
  refine wl1 H79 (r_load sc22 rfl (hB1.cell rfl)) rfl rfl rfl rfl fun a75 H80 => ?_
  clear H79 a74
  refine wl_on (d := 147) H80 rfl rfl rfl ?_
  refine wlc  H80 rfl rfl hb20 rfl (jcut (n := 7) hN.sat hc1) fun v w27 hR a76 H81 => ?_
  clear H80 a75
  obtain ⟨rfl, gw27⟩ := hR
  have hN := hN.ofGr gw27
  replace hB1 := hB1.gr gw27
  replace hB2 := hB2.gr gw27
  replace hB3 := hB3.gr gw27
  replace hB4 := hB4.gr gw27
  replace hB5 := hB5.gr gw27
  refine wl_on (d := 147) H81 rfl rfl rfl ?_
  refine wl1 H81 (r_len Try.underlying22 rfl) rfl rfl rfl rfl fun a77 H82 => ?_
  clear H81 a76
  refine wl_on (d := 147) H82 rfl rfl rfl ?_
  refine wl1 H82 (r_eql rfl rfl) rfl rfl rfl rfl fun a78 H83 => ?_
  clear H82 a77
  replace H83 := H83.known (t := 152) (b := true) rfl (by rw [ex1_len]; rfl)
  refine wl1 H83 (r_pick_t rfl rfl) rfl rfl rfl rfl fun a79 H84 => ?_
  clear H83 a78
  refine wl1 H84 (r_move rfl) rfl rfl rfl rfl fun a80 H85 => ?_
  clear H84 a79
  refine wl_on (d := 154) H85 rfl rfl rfl ?_
  refine wl1 H85 (r_fld fld37_0 rfl) rfl rfl rfl rfl fun a81 H86 => ?_
  clear H85 a80
  refine wl_on (d := 154) H86 rfl rfl rfl ?_
  refine wl1 H86 (r_load sc22 rfl (hB1.cell rfl)) rfl rfl rfl rfl fun a82 H87 => ?_
  clear H86 a81
  refine wl_on (d := 154) H87 rfl rfl rfl ?_
  refine wlc  H87 rfl rfl hb20 rfl (jcut (n := -1) hN.sat hc1) fun v w28 hR a83 H88 => ?_
  clear H87 a82
  obtain ⟨rfl, gw28⟩ := hR
  have hN := hN.ofGr gw28
  replace hB1 := hB1.gr gw28
  replace hB2 := hB2.gr gw28
  replace hB3 := hB3.gr gw28
  replace hB4 := hB4.gr gw28
  replace hB5 := hB5.gr gw28
  refine wl_on (d := 154) H88 rfl rfl rfl ?_
  refine wl1 H88 (r_len Try.underlying22 rfl) rfl rfl rfl rfl fun a84 H89 => ?_
  clear H88 a83
  refine wl_on (d := 154) H89 rfl rfl rfl ?_
  refine wl1 H89 (r_eql rfl rfl) rfl rfl rfl rfl fun a85 H90 => ?_
  clear H89 a84
  replace H90 := H90.known (t := 159) (b := true) rfl (by rw [ex1_len]; rfl)
  refine wl1 H90 (r_pick_t rfl rfl) rfl rfl rfl rfl fun a86 H91 => ?_
  clear H90 a85
  refine wl1 H91 (r_assign rfl) rfl rfl rfl rfl fun a87 H92 => ?_
  clear H91 a86
  refine wl_end ?_
  refine th_n ?_
  refine wpIn_ret ?_
  refine fin_r H92 (res1 rfl H92 rfl) ?_
  exact ⟨rfl, hN.gr⟩
  -- UNUSED r3.63
end Go.Proofs.Yteinlgobadlgnaa
