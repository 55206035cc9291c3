/- TransportMatchesReference, walked. -/
import Derived.Test.YtjjpaghloaggeaaTrH
set_option linter.unusedVariables false
set_option linter.unusedSimpArgs false
namespace Go.Proofs.Ytjjpaghloaggeaa
open Go.RowKit


def SΦ (x : Lk) (e : Int) (K : Im) (u : Value) : Prop := ∃ A1 c1 A2 c2, u = .agg #[.int .u64 x.key, .slice A1 x.out.length c1, .int .i64 x.base, .slice A2 x.inn.length c2, .int .i64 x.rcv, .int .i64 e] ∧ LkAt K x A1 c1 A2 c2
def PΦ (q : Pk) (K : Im) (u : Value) : Prop := ∃ A c, u = .agg #[.int .i64 q.seq, .int .i64 q.ack, .slice A q.data.length c, .int .u64 q.chk] ∧ PkAt K q A c
theorem lk_new (J : Im) {k : Int} (hk : InK .u64 k) : LkAt J ⟨k, [], 0, [], 0⟩ none 0 none 0 := ⟨hk, by simp [InK], by simp [InK], Nat.le_refl _, Els.nil _ _ _, Nat.le_refl _, Els.nil _ _ _⟩
theorem key1_in (k : Int) : InK .u64 (key1 k) := InK.xor _ _
theorem els_ink {q : IntKind} {I : Im} {A : Option Addr} {xs : List Int} (h : Els (kInt q) I A xs) : ∀ x ∈ xs, InK q x := by
  intro x hx
  obtain ⟨j, hj, rfl⟩ := List.getElem_of_mem hx
  obtain ⟨b, o, rfl⟩ := h.form (by omega)
  exact (h.num hj).2

set_option maxRecDepth 100000 in
set_option maxHeartbeats 8000000 in
theorem matches_walk {key : Int} {bs : List Int} {F : Option Addr} {cf : Nat} {A1 A2 : Option Addr} {c1 c2 : Nat} {x : Lk} {p : Pk} {D E : Option Addr} {cd ce : Nat} {d : List Int} {i : Int} {I : Im} {w : World} (hS : Sat I w) (hkey : InK .u64 key) (hb : Els (kInt .u8) I F bs) (hbc : bs.length ≤ cf) (hL : LkAt I x A1 c1 A2 c2) (hP : PkAt I p D cd) (hD : Els (kInt .u8) I E d) (hdc : d.length ≤ ce) (hi : InK .i64 i) :
    Ret Try.prog 3 [.int .u64 key, .slice F bs.length cf, .agg #[.int .u64 x.key, .slice A1 x.out.length c1, .int .i64 x.base, .slice A2 x.inn.length c2, .int .i64 x.rcv, .int .i64 p.seq, .int .i64 p.ack, .slice D p.data.length cd, .int .u64 p.chk, .slice E d.length ce, .int .i64 i]] w (fun v w' => v = .bool true ∧ Gr w w') := by
  obtain ⟨y, hyd⟩ : ∃ y, y = glink key bs := ⟨_, rfl⟩
  have hv : LkV y := hyd ▸ glink_valid (els_ink hb) key
  have hval : lvalid y = true := (lvalid_iff y).2 hv
  refine ret_of (N := 156) Try.func3 rfl rfl rfl fun a0 H0 => ?_
  have hN := New.refl hS
  simp only [argsEnv, Nat.zero_add, Nat.reduceAdd] at H0
  refine wpIn_seq ?_
  refine w_reg ?_
  refine s_box H0 rfl rfl hN fun w1 b5 hN gw1 hB5 hgeb5 heb5 a1 H1 => ?_
  clear H0 a0
  replace hB5 : Box _ _ _ [_, _, _, _, _, _, _, _, _, _, _] 30 := hB5
  refine wl1 H1 (r_assign rfl) rfl rfl rfl rfl fun a2 H2 => ?_
  clear H1 a1
  refine wl_end ?_
  refine th_n ?_
  refine wpIn_seq ?_
  refine w_reg ?_
  refine wlc  H2 rfl rfl hb10 rfl (lexamples hN.sat) fun v w2 hR a3 H3 => ?_
  clear H2 a2
  obtain ⟨rfl, gw2⟩ := hR
  have hN := hN.ofGr gw2
  replace hB5 := hB5.gr gw2
  replace H3 := H3.known (t := 16) (b := true) rfl rfl
  refine wl1 H3 (r_assign rfl) rfl rfl rfl rfl fun a4 H4 => ?_
  clear H3 a3
  refine wl_end ?_
  refine th_n ?_
  refine wpIn_seq ?_
  refine wpIn_seq ?_
  refine w_reg ?_
  refine wl1 H4 (r_move rfl) rfl rfl rfl rfl fun a5 H5 => ?_
  clear H4 a4
  refine wl1 H5 (r_not rfl) rfl rfl rfl rfl fun a6 H6 => ?_
  clear H5 a5
  replace H6 := H6.known (t := 18) (b := false) rfl rfl
  refine wl1 H6 (r_move rfl) rfl rfl rfl rfl fun a7 H7 => ?_
  clear H6 a6
  refine wl_on (d := 19) H7 rfl rfl rfl ?_
  refine wl1 H7 (r_loadA (cs := [_, _, _, _, _, _, _, _, _, _, _]) ag30 rfl hB5.agg) rfl rfl rfl rfl fun a8 H8 => ?_
  clear H7 a7
  refine wl_on (d := 19) H8 rfl rfl rfl ?_
  refine wlc  H8 rfl rfl hb11 rfl (lsmall hN.sat hL hP hD hdc) fun v w3 hR a9 H9 => ?_
  clear H8 a8
  obtain ⟨⟨SB, rfl, hsm⟩, gw3⟩ := hR
  have hN := hN.ofGr gw3
  replace hB5 := hB5.gr gw3
  refine wl_on (d := 19) H9 rfl rfl rfl ?_
  refine wl1 H9 (r_not rfl) rfl rfl rfl rfl fun a10 H10 => ?_
  clear H9 a9
  refine wl1 H10 (r_pick_f rfl rfl) rfl rfl rfl rfl fun a11 H11 => ?_
  clear H10 a10
  refine wl_end ?_
  refine th_n ?_
  first | refine w_if H11 rfl (fun hc23 => ?_) (fun hc23 => ?_) | refine w_cond H11 rfl (fun hc23 => ?_) (fun hc23 => ?_)
  ·
    try simp only [decide_eq_true_eq, decide_eq_false_iff_not, Bool.or_eq_true, Bool.and_eq_true, Bool.or_eq_false_iff, Bool.and_eq_false_iff, Bool.not_eq_true', Bool.not_eq_false', Int.not_lt, Int.not_le, ne_eq, Decidable.not_not] at hc23
    refine wpIn_seq ?_
    refine w_reg ?_
    refine wl1 H11 (r_move rfl) rfl rfl rfl rfl fun a12 H12 => ?_
    clear H11 a11
    refine wl1 H12 (r_assign rfl) rfl rfl rfl rfl fun a13 H13 => ?_
    clear H12 a12
    refine wl_end ?_
    refine th_n ?_
    refine wpIn_ret ?_
    refine th_r ?_
    refine fin_r H13 (res1 rfl H13 rfl) ?_
    exact ⟨by first | rfl | simp, hN.gr⟩
  ·
    try simp only [decide_eq_true_eq, decide_eq_false_iff_not, Bool.or_eq_true, Bool.and_eq_true, Bool.or_eq_false_iff, Bool.and_eq_false_iff, Bool.not_eq_true', Bool.not_eq_false', Int.not_lt, Int.not_le, ne_eq, Decidable.not_not] at hc23
    obtain ⟨hpl, _⟩ := hsm (by simpa using hc23)
    refine wpIn_skip ?_
    refine th_n ?_
    refine wpIn_seq ?_
    refine w_reg ?_
    refine wl1 H11 (r_move rfl) rfl rfl rfl rfl fun a12 H14 => ?_
    clear H11 a11
    refine wl1 H14 (r_move rfl) rfl rfl rfl rfl fun a13 H15 => ?_
    clear H14 a12
    refine wlc  H15 rfl rfl hb12 rfl ((by have h := rlink_ret (key := key) hN.sat hkey hb hbc; rw [← hyd] at h; exact h)) fun v w4 hR a14 H16 => ?_
    clear H15 a13
    obtain ⟨J4, nw4, ⟨A3, c3, A4, c4, rfl, hy⟩⟩ := hR
    replace hb := hb.up nw4.le
    replace hL := hL.up nw4.le
    replace hP := hP.up nw4.le
    replace hD := hD.up nw4.le
    replace hB5 := hB5.next nw4
    have hN := hN.trans nw4
    refine s_alloc H16 zv26 rfl hN fun w5 b8 hN gw5 hB8 hgeb8 heb8 a15 H17 => ?_
    clear H16 a14
    replace hB8 : Box _ _ _ [.int .u64 0, .slice none 0 0, .int .i64 0, .slice none 0 0, .int .i64 0] 26 := hB8
    have hne_hB5_b8 := hB5.lt
    rw [← heb8] at hne_hB5_b8
    replace hB5 := hB5.gr gw5
    refine s_storeA (vs := [_, _, _, _, _]) H17 sz26 (by simp) (by simp [Value.oneCell']) rfl rfl hN hB8 (by simp) hgeb8 fun w6 hN hB8 ew6 H18 => ?_
    clear H17
    replace hB5 := hB5.otherE ew6 (by omega)
    simp only [Nat.zero_add, Nat.add_zero, Nat.reduceAdd, Nat.reduceMul, List.set_cons_zero, List.set_cons_succ, spliceL] at hB8
    clear ew6
    refine wl_end ?_
    refine th_n ?_
    refine wpIn_seq ?_
    refine w_reg ?_
    refine wl1 H18 (r_move rfl) rfl rfl rfl rfl fun a16 H19 => ?_
    clear H18 a15
    refine wlc  H19 rfl rfl hb13 rfl (pair_ret hN.sat) fun v w7 hR a17 H20 => ?_
    clear H19 a16
    obtain ⟨rfl, gw7⟩ := hR
    have hN := hN.ofGr gw7
    replace hB5 := hB5.gr gw7
    replace hB8 := hB8.gr gw7
    refine wl1 H20 (r_move rfl) rfl rfl rfl rfl fun a18 H21 => ?_
    clear H20 a17
    refine wl1 H21 (r_extract rfl rfl) rfl rfl rfl rfl fun a19 H22 => ?_
    clear H21 a18
    refine wl1 H22 (r_extract rfl rfl) rfl rfl rfl rfl fun a20 H23 => ?_
    clear H22 a19
    refine s_alloc H23 zv26 rfl hN fun w8 b9 hN gw8 hB9 hgeb9 heb9 a21 H24 => ?_
    clear H23 a20
    replace hB9 : Box _ _ _ [.int .u64 0, .slice none 0 0, .int .i64 0, .slice none 0 0, .int .i64 0] 26 := hB9
    have hne_hB5_b9 := hB5.lt
    rw [← heb9] at hne_hB5_b9
    have hne_hB8_b9 := hB8.lt
    rw [← heb9] at hne_hB8_b9
    replace hB5 := hB5.gr gw8
    replace hB8 := hB8.gr gw8
    refine s_alloc H24 zv26 rfl hN fun w9 b10 hN gw9 hB10 hgeb10 heb10 a22 H25 => ?_
    clear H24 a21
    replace hB10 : Box _ _ _ [.int .u64 0, .slice none 0 0, .int .i64 0, .slice none 0 0, .int .i64 0] 26 := hB10
    have hne_hB5_b10 := hB5.lt
    rw [← heb10] at hne_hB5_b10
    have hne_hB8_b10 := hB8.lt
    rw [← heb10] at hne_hB8_b10
    have hne_hB9_b10 := hB9.lt
    rw [← heb10] at hne_hB9_b10
    replace hB5 := hB5.gr gw9
    replace hB8 := hB8.gr gw9
    replace hB9 := hB9.gr gw9
    refine s_storeA (vs := [_, _, _, _, _]) H25 sz26 (by simp) (by simp [Value.oneCell']) rfl rfl hN hB9 (by simp) hgeb9 fun w10 hN hB9 ew10 H26 => ?_
    clear H25
    replace hB5 := hB5.otherE ew10 (by omega)
    replace hB8 := hB8.otherE ew10 (by omega)
    replace hB10 := hB10.otherE ew10 (by omega)
    simp only [Nat.zero_add, Nat.add_zero, Nat.reduceAdd, Nat.reduceMul, List.set_cons_zero, List.set_cons_succ, spliceL] at hB9
    clear ew10
    refine s_storeA (vs := [_, _, _, _, _]) H26 sz26 (by simp) (by simp [Value.oneCell']) rfl rfl hN hB10 (by simp) hgeb10 fun w11 hN hB10 ew11 H27 => ?_
    clear H26
    replace hB5 := hB5.otherE ew11 (by omega)
    replace hB8 := hB8.otherE ew11 (by omega)
    replace hB9 := hB9.otherE ew11 (by omega)
    simp only [Nat.zero_add, Nat.add_zero, Nat.reduceAdd, Nat.reduceMul, List.set_cons_zero, List.set_cons_succ, spliceL] at hB10
    clear ew11
    refine wl_end ?_
    refine th_n ?_
    refine wpIn_seq ?_
    refine wpIn_seq ?_
    have hS0 := hN.sat
    have hNsz6 := hN.gr.size
    refine w_drawE (m := 27) (l0 := [(0, _), (5, _), (6, _), (7, _), (8, _), (9, _), (10, _)]) hfol H27 ⟨rfl, rfl, rfl, rfl, rfl, rfl, rfl, trivial⟩ (by kernel_rfl) ?_
    refine ⟨_, false, (fun σ ι w1 hg hd hon => by
        have hN := hN.ofGr ((Gr.refl _).drew.trans hg)
        have hB5 := hB5.gr ((Gr.refl _).drew.trans hg)
        have hB8 := hB8.gr ((Gr.refl _).drew.trans hg)
        have hB9 := hB9.gr ((Gr.refl _).drew.trans hg)
        have hB10 := hB10.gr ((Gr.refl _).drew.trans hg)
        exact OpOK.sub (r := [(0, _), (5, _), (6, _), (7, _), (8, _), (9, _), (10, _)]) ⟨rfl, rfl, rfl, rfl, rfl, rfl, rfl, trivial⟩ (by
          exact OpOK.eq (r_loadA (cs := [_, _, _, _, _]) ag26 rfl hB9.agg))
        ), (fun _ _ _ _ _ _ h => h), (FreeR.no _), ?_⟩
    refine ⟨_, false, (fun σ ι w1 hg hd hon => by
        exact OpOK.sub (r := [(0, _), (5, _), (6, _), (7, _), (8, _), (9, _), (10, _)]) ⟨rfl, rfl, rfl, rfl, rfl, rfl, rfl, trivial⟩ (by
          exact OpOK.eq (r_move rfl))
        ), (fun _ _ _ _ _ _ h => h), (FreeR.no _), ?_⟩
    refine ⟨_, false, (fun σ ι w1 hg hd hon => by
        have f1 := hd 1 (by decide) _ rfl
        have e1 : σ 1 = _ := f1.1 trivial
        exact OpOK.sub (r := [(34, _), (0, _), (5, _), (6, _), (7, _), (8, _), (9, _), (10, _)]) ⟨congrArg some e1, rfl, rfl, rfl, rfl, rfl, rfl, rfl, trivial⟩ (by
          exact OpOK.eq (r_build (v := .agg #[.int .u64 key, .slice none 0 0, .int .i64 0, .slice none 0 0, .int .i64 0]) rfl (fun w => by kernel_rfl)))
        ), (fun _ _ _ _ _ _ h => h), (FreeR.no _), ?_⟩
    refine ⟨_, true, (fun σ ι w1 hg hd hon => by
        have hN := hN.ofGr ((Gr.refl _).drew.trans hg)
        have hB5 := hB5.gr ((Gr.refl _).drew.trans hg)
        have hB8 := hB8.gr ((Gr.refl _).drew.trans hg)
        have hB9 := hB9.gr ((Gr.refl _).drew.trans hg)
        have hB10 := hB10.gr ((Gr.refl _).drew.trans hg)
        have f0 := hd 0 (by decide) _ rfl
        have f2 := hd 2 (by decide) _ rfl
        have e0 : σ 0 = _ := f0.1 trivial
        have e2 : σ 2 = _ := f2.1 trivial
        skip
        exact CallOK.sub (r := [(33, _), (35, _), (0, _), (5, _), (6, _), (7, _), (8, _), (9, _), (10, _)]) ⟨congrArg some e0, congrArg some e2, rfl, rfl, rfl, rfl, rfl, rfl, rfl, trivial⟩ (by
          exact CallOK.V (enters_of rfl rfl hb14) (by have hz := rsamel (x := ⟨key, [], 0, [], 0⟩) (y := ⟨key, [], 0, [], 0⟩) hN.sat (lk_new _ hkey) (lk_new _ hkey); exact hz))
        ), (fun _ _ _ _ _ _ h => h), (fun _ _ _ _ _ _ h => h), ?_⟩
    refine ⟨_, false, (fun σ ι w1 hg hd hon => by
        have f3 := hd 3 (by decide) _ rfl
        have e3 : σ 3 = _ := f3.1 trivial
        exact OpOK.sub (r := [(36, _), (0, _), (5, _), (6, _), (7, _), (8, _), (9, _), (10, _)]) ⟨congrArg some e3, rfl, rfl, rfl, rfl, rfl, rfl, rfl, trivial⟩ (by
          exact OpOK.eq (r_not rfl))
        ), (fun _ _ _ _ _ _ h => h), (FreeR.no _), ?_⟩
    refine ⟨_, false, (fun σ ι w1 hg hd hon => by
        have f4 := hd 4 (by decide) _ rfl
        have e4 : σ 4 = _ := f4.1 trivial
        exact OpOK.sub (r := [(37, _), (0, _), (5, _), (6, _), (7, _), (8, _), (9, _), (10, _)]) ⟨congrArg some e4, rfl, rfl, rfl, rfl, rfl, rfl, rfl, trivial⟩ (by
          exact OpOK.eq (r_move rfl))
        ), (fun _ _ _ _ _ _ h => h), (FreeR.no _), ?_⟩
    refine ⟨_, false, (fun σ ι w1 hg hd hon => by
        have hN := hN.ofGr ((Gr.refl _).drew.trans hg)
        have hB5 := hB5.gr ((Gr.refl _).drew.trans hg)
        have hB8 := hB8.gr ((Gr.refl _).drew.trans hg)
        have hB9 := hB9.gr ((Gr.refl _).drew.trans hg)
        have hB10 := hB10.gr ((Gr.refl _).drew.trans hg)
        have f5 := hd 5 (by decide) _ rfl
        have e5 : σ 5 = _ := f5.1 trivial
        have hgd : σ 5 = .bool false := hon
        have hgb := (f5.1 trivial : σ 5 = _).symm.trans hgd
        simp only [Value.bool.injEq] at hgb
        try simp only [decide_eq_true_eq, decide_eq_false_iff_not, Bool.or_eq_true, Bool.and_eq_true, Bool.or_eq_false_iff, Bool.and_eq_false_iff, Bool.not_eq_true', Bool.not_eq_false', Int.not_lt, Int.not_le, ne_eq, Decidable.not_not] at hgb
        exact OpOK.sub (r := [(0, _), (5, _), (6, _), (7, _), (8, _), (9, _), (10, _)]) ⟨rfl, rfl, rfl, rfl, rfl, rfl, rfl, trivial⟩ (by
          exact OpOK.eq (r_loadA (cs := [_, _, _, _, _]) ag26 rfl hB10.agg))
        ), (fun _ _ _ _ _ _ h => h), (FreeR.no _), ?_⟩
    refine ⟨_, false, (fun σ ι w1 hg hd hon => by
        have f5 := hd 5 (by decide) _ rfl
        have e5 : σ 5 = _ := f5.1 trivial
        have hgd : σ 5 = .bool false := hon
        have hgb := (f5.1 trivial : σ 5 = _).symm.trans hgd
        simp only [Value.bool.injEq] at hgb
        try simp only [decide_eq_true_eq, decide_eq_false_iff_not, Bool.or_eq_true, Bool.and_eq_true, Bool.or_eq_false_iff, Bool.and_eq_false_iff, Bool.not_eq_true', Bool.not_eq_false', Int.not_lt, Int.not_le, ne_eq, Decidable.not_not] at hgb
        exact OpOK.sub (r := [(0, _), (5, _), (6, _), (7, _), (8, _), (9, _), (10, _)]) ⟨rfl, rfl, rfl, rfl, rfl, rfl, rfl, trivial⟩ (by
          exact OpOK.eq (r_move rfl))
        ), (fun _ _ _ _ _ _ h => h), (FreeR.no _), ?_⟩
    refine ⟨_, false, (fun σ ι w1 hg hd hon => by
        have f7 := hd 7 (by decide) _ rfl
        have f5 := hd 5 (by decide) _ rfl
        have e7 : σ 7 = _ := f7.1 hon
        have e5 : σ 5 = _ := f5.1 trivial
        have hgd : σ 5 = .bool false := hon
        have hgb := (f5.1 trivial : σ 5 = _).symm.trans hgd
        simp only [Value.bool.injEq] at hgb
        try simp only [decide_eq_true_eq, decide_eq_false_iff_not, Bool.or_eq_true, Bool.and_eq_true, Bool.or_eq_false_iff, Bool.and_eq_false_iff, Bool.not_eq_true', Bool.not_eq_false', Int.not_lt, Int.not_le, ne_eq, Decidable.not_not] at hgb
        exact OpOK.sub (r := [(40, _), (0, _), (5, _), (6, _), (7, _), (8, _), (9, _), (10, _)]) ⟨congrArg some e7, rfl, rfl, rfl, rfl, rfl, rfl, rfl, trivial⟩ (by
          exact OpOK.eq (r_xor rfl rfl))
        ), (fun _ _ _ _ _ _ h => h), (FreeR.no _), ?_⟩
    refine ⟨_, false, (fun σ ι w1 hg hd hon => by
        have f8 := hd 8 (by decide) _ rfl
        have f5 := hd 5 (by decide) _ rfl
        have e8 : σ 8 = _ := f8.1 hon
        have e5 : σ 5 = _ := f5.1 trivial
        have hgd : σ 5 = .bool false := hon
        have hgb := (f5.1 trivial : σ 5 = _).symm.trans hgd
        simp only [Value.bool.injEq] at hgb
        try simp only [decide_eq_true_eq, decide_eq_false_iff_not, Bool.or_eq_true, Bool.and_eq_true, Bool.or_eq_false_iff, Bool.and_eq_false_iff, Bool.not_eq_true', Bool.not_eq_false', Int.not_lt, Int.not_le, ne_eq, Decidable.not_not] at hgb
        exact OpOK.sub (r := [(41, _), (0, _), (5, _), (6, _), (7, _), (8, _), (9, _), (10, _)]) ⟨congrArg some e8, rfl, rfl, rfl, rfl, rfl, rfl, rfl, trivial⟩ (by
          exact OpOK.eq (r_build (v := .agg #[.int .u64 (key1 key), .slice none 0 0, .int .i64 0, .slice none 0 0, .int .i64 0]) rfl (fun w => by kernel_rfl)))
        ), (fun _ _ _ _ _ _ h => h), (FreeR.no _), ?_⟩
    refine ⟨_, true, (fun σ ι w1 hg hd hon => by
        have hN := hN.ofGr ((Gr.refl _).drew.trans hg)
        have hB5 := hB5.gr ((Gr.refl _).drew.trans hg)
        have hB8 := hB8.gr ((Gr.refl _).drew.trans hg)
        have hB9 := hB9.gr ((Gr.refl _).drew.trans hg)
        have hB10 := hB10.gr ((Gr.refl _).drew.trans hg)
        have f6 := hd 6 (by decide) _ rfl
        have f9 := hd 9 (by decide) _ rfl
        have f5 := hd 5 (by decide) _ rfl
        have e6 : σ 6 = _ := f6.1 hon
        have e9 : σ 9 = _ := f9.1 hon
        have e5 : σ 5 = _ := f5.1 trivial
        have hgd : σ 5 = .bool false := hon
        have hgb := (f5.1 trivial : σ 5 = _).symm.trans hgd
        simp only [Value.bool.injEq] at hgb
        try simp only [decide_eq_true_eq, decide_eq_false_iff_not, Bool.or_eq_true, Bool.and_eq_true, Bool.or_eq_false_iff, Bool.and_eq_false_iff, Bool.not_eq_true', Bool.not_eq_false', Int.not_lt, Int.not_le, ne_eq, Decidable.not_not] at hgb
        skip
        exact CallOK.sub (r := [(39, _), (42, _), (0, _), (5, _), (6, _), (7, _), (8, _), (9, _), (10, _)]) ⟨congrArg some e6, congrArg some e9, rfl, rfl, rfl, rfl, rfl, rfl, rfl, trivial⟩ (by
          exact CallOK.V (enters_of rfl rfl hb14) (by have hz := rsamel (x := ⟨key1 key, [], 0, [], 0⟩) (y := ⟨key1 key, [], 0, [], 0⟩) hN.sat (lk_new _ (key1_in key)) (lk_new _ (key1_in key)); exact hz))
        ), (fun _ _ _ _ _ _ h => h), (fun _ _ _ _ _ _ h => h), ?_⟩
    refine ⟨_, false, (fun σ ι w1 hg hd hon => by
        have f10 := hd 10 (by decide) _ rfl
        have f5 := hd 5 (by decide) _ rfl
        have e10 : σ 10 = _ := f10.1 hon
        have e5 : σ 5 = _ := f5.1 trivial
        have hgd : σ 5 = .bool false := hon
        have hgb := (f5.1 trivial : σ 5 = _).symm.trans hgd
        simp only [Value.bool.injEq] at hgb
        try simp only [decide_eq_true_eq, decide_eq_false_iff_not, Bool.or_eq_true, Bool.and_eq_true, Bool.or_eq_false_iff, Bool.and_eq_false_iff, Bool.not_eq_true', Bool.not_eq_false', Int.not_lt, Int.not_le, ne_eq, Decidable.not_not] at hgb
        exact OpOK.sub (r := [(43, _), (0, _), (5, _), (6, _), (7, _), (8, _), (9, _), (10, _)]) ⟨congrArg some e10, rfl, rfl, rfl, rfl, rfl, rfl, rfl, trivial⟩ (by
          exact OpOK.eq (r_not rfl))
        ), (fun _ _ _ _ _ _ h => h), (FreeR.no _), ?_⟩
    refine ⟨_, false, (fun σ ι w1 hg hd hon => by
        have f5 := hd 5 (by decide) _ rfl
        have f11 := hd 11 (by decide) _ rfl
        have e5 : σ 5 = _ := f5.1 trivial
        have ec : σ 5 = _ := f5.1 trivial
        exact OpOK.id (by refine OpOK.or (dc := 38) (dy := 44) (kc := σ 5) (ky := σ 11) ?_ ?_ ec (fun hb => f11.1 (by show σ 5 = _; rw [ec]; exact congrArg Value.bool hb)) <;> rfl)
        ), (fun _ _ _ _ _ _ h => h), (FreeR.no _), ?_⟩
    refine ⟨_, false, (fun σ ι w1 hg hd hon => by
        have f12 := hd 12 (by decide) _ rfl
        have e12 : σ 12 = _ := f12.1 trivial
        exact OpOK.sub (r := [(45, _), (0, _), (5, _), (6, _), (7, _), (8, _), (9, _), (10, _)]) ⟨congrArg some e12, rfl, rfl, rfl, rfl, rfl, rfl, rfl, trivial⟩ (by
          exact OpOK.eq (r_move rfl))
        ), (fun _ _ _ _ _ _ h => h), (FreeR.no _), ?_⟩
    refine ⟨_, false, (fun σ ι w1 hg hd hon => by
        have hN := hN.ofGr ((Gr.refl _).drew.trans hg)
        have hB5 := hB5.gr ((Gr.refl _).drew.trans hg)
        have hB8 := hB8.gr ((Gr.refl _).drew.trans hg)
        have hB9 := hB9.gr ((Gr.refl _).drew.trans hg)
        have hB10 := hB10.gr ((Gr.refl _).drew.trans hg)
        have f13 := hd 13 (by decide) _ rfl
        have e13 : σ 13 = _ := f13.1 trivial
        have hgd : σ 13 = .bool false := hon
        have hgb := (f13.1 trivial : σ 13 = _).symm.trans hgd
        simp only [Value.bool.injEq] at hgb
        try simp only [decide_eq_true_eq, decide_eq_false_iff_not, Bool.or_eq_true, Bool.and_eq_true, Bool.or_eq_false_iff, Bool.and_eq_false_iff, Bool.not_eq_true', Bool.not_eq_false', Int.not_lt, Int.not_le, ne_eq, Decidable.not_not] at hgb
        exact OpOK.sub (r := [(0, _), (5, _), (6, _), (7, _), (8, _), (9, _), (10, _)]) ⟨rfl, rfl, rfl, rfl, rfl, rfl, rfl, trivial⟩ (by
          exact OpOK.eq (r_loadA (cs := [_, _, _, _, _]) ag26 rfl hB8.agg))
        ), (fun _ _ _ _ _ _ h => h), (FreeR.no _), ?_⟩
    refine ⟨_, true, (fun σ ι w1 hg hd hon => by
        have hN := hN.ofGr ((Gr.refl _).drew.trans hg)
        have hB5 := hB5.gr ((Gr.refl _).drew.trans hg)
        have hB8 := hB8.gr ((Gr.refl _).drew.trans hg)
        have hB9 := hB9.gr ((Gr.refl _).drew.trans hg)
        have hB10 := hB10.gr ((Gr.refl _).drew.trans hg)
        have f14 := hd 14 (by decide) _ rfl
        have f13 := hd 13 (by decide) _ rfl
        have e14 : σ 14 = _ := f14.1 hon
        have e13 : σ 13 = _ := f13.1 trivial
        have hgd : σ 13 = .bool false := hon
        have hgb := (f13.1 trivial : σ 13 = _).symm.trans hgd
        simp only [Value.bool.injEq] at hgb
        try simp only [decide_eq_true_eq, decide_eq_false_iff_not, Bool.or_eq_true, Bool.and_eq_true, Bool.or_eq_false_iff, Bool.and_eq_false_iff, Bool.not_eq_true', Bool.not_eq_false', Int.not_lt, Int.not_le, ne_eq, Decidable.not_not] at hgb
        skip
        exact CallOK.sub (r := [(47, _), (0, _), (5, _), (6, _), (7, _), (8, _), (9, _), (10, _)]) ⟨congrArg some e14, rfl, rfl, rfl, rfl, rfl, rfl, rfl, trivial⟩ (by
          exact CallOK.V (enters_of rfl rfl hb15) (by have hz := valid_ret hN.sat hy; exact hz))
        ), (fun _ _ _ _ _ _ h => h), (fun _ _ _ _ _ _ h => h), ?_⟩
    refine ⟨_, false, (fun σ ι w1 hg hd hon => by
        have f15 := hd 15 (by decide) _ rfl
        have f13 := hd 13 (by decide) _ rfl
        have e15 : σ 15 = _ := f15.1 hon
        have e13 : σ 13 = _ := f13.1 trivial
        have hgd : σ 13 = .bool false := hon
        have hgb := (f13.1 trivial : σ 13 = _).symm.trans hgd
        simp only [Value.bool.injEq] at hgb
        try simp only [decide_eq_true_eq, decide_eq_false_iff_not, Bool.or_eq_true, Bool.and_eq_true, Bool.or_eq_false_iff, Bool.and_eq_false_iff, Bool.not_eq_true', Bool.not_eq_false', Int.not_lt, Int.not_le, ne_eq, Decidable.not_not] at hgb
        exact OpOK.sub (r := [(48, _), (0, _), (5, _), (6, _), (7, _), (8, _), (9, _), (10, _)]) ⟨congrArg some e15, rfl, rfl, rfl, rfl, rfl, rfl, rfl, trivial⟩ (by
          exact OpOK.eq (r_not rfl))
        ), (fun _ _ _ _ _ _ h => h), (FreeR.no _), ?_⟩
    refine ⟨_, false, (fun σ ι w1 hg hd hon => by
        have f13 := hd 13 (by decide) _ rfl
        have f16 := hd 16 (by decide) _ rfl
        have e13 : σ 13 = _ := f13.1 trivial
        have ec : σ 13 = _ := f13.1 trivial
        exact OpOK.id (by refine OpOK.or (dc := 46) (dy := 49) (kc := σ 13) (ky := σ 16) ?_ ?_ ec (fun hb => f16.1 (by show σ 13 = _; rw [ec]; exact congrArg Value.bool hb)) <;> rfl)
        ), (fun _ _ _ _ _ _ h => h), (FreeR.no _), ?_⟩
    refine ⟨_, false, (fun σ ι w1 hg hd hon => by
        have f17 := hd 17 (by decide) _ rfl
        have e17 : σ 17 = _ := f17.1 trivial
        exact OpOK.sub (r := [(50, _), (0, _), (5, _), (6, _), (7, _), (8, _), (9, _), (10, _)]) ⟨congrArg some e17, rfl, rfl, rfl, rfl, rfl, rfl, rfl, trivial⟩ (by
          exact OpOK.eq (r_move rfl))
        ), (fun _ _ _ _ _ _ h => h), (FreeR.no _), ?_⟩
    refine ⟨_, false, (fun σ ι w1 hg hd hon => by
        have f18 := hd 18 (by decide) _ rfl
        have e18 : σ 18 = _ := f18.1 trivial
        have hgd : σ 18 = .bool false := hon
        have hgb := (f18.1 trivial : σ 18 = _).symm.trans hgd
        simp only [Value.bool.injEq] at hgb
        try simp only [decide_eq_true_eq, decide_eq_false_iff_not, Bool.or_eq_true, Bool.and_eq_true, Bool.or_eq_false_iff, Bool.and_eq_false_iff, Bool.not_eq_true', Bool.not_eq_false', Int.not_lt, Int.not_le, ne_eq, Decidable.not_not] at hgb
        exact OpOK.sub (r := [(0, _), (5, _), (6, _), (7, _), (8, _), (9, _), (10, _)]) ⟨rfl, rfl, rfl, rfl, rfl, rfl, rfl, trivial⟩ (by
          exact OpOK.eq (r_fld fld30_0 rfl))
        ), (fun _ _ _ _ _ _ h => h), (FreeR.no _), ?_⟩
    refine ⟨_, false, (fun σ ι w1 hg hd hon => by
        have hN := hN.ofGr ((Gr.refl _).drew.trans hg)
        have hB5 := hB5.gr ((Gr.refl _).drew.trans hg)
        have hB8 := hB8.gr ((Gr.refl _).drew.trans hg)
        have hB9 := hB9.gr ((Gr.refl _).drew.trans hg)
        have hB10 := hB10.gr ((Gr.refl _).drew.trans hg)
        have f19 := hd 19 (by decide) _ rfl
        have f18 := hd 18 (by decide) _ rfl
        have e19 : σ 19 = _ := f19.1 hon
        have e18 : σ 18 = _ := f18.1 trivial
        have hgd : σ 18 = .bool false := hon
        have hgb := (f18.1 trivial : σ 18 = _).symm.trans hgd
        simp only [Value.bool.injEq] at hgb
        try simp only [decide_eq_true_eq, decide_eq_false_iff_not, Bool.or_eq_true, Bool.and_eq_true, Bool.or_eq_false_iff, Bool.and_eq_false_iff, Bool.not_eq_true', Bool.not_eq_false', Int.not_lt, Int.not_le, ne_eq, Decidable.not_not] at hgb
        exact OpOK.sub (r := [(52, _), (0, _), (5, _), (6, _), (7, _), (8, _), (9, _), (10, _)]) ⟨congrArg some e19, rfl, rfl, rfl, rfl, rfl, rfl, rfl, trivial⟩ (by
          exact OpOK.eq (Box.loadO ag26 rfl hB5 (by simp)))
        ), (fun _ _ _ _ _ _ h => h), (FreeR.no _), ?_⟩
    refine ⟨_, true, (fun σ ι w1 hg hd hon => by
        have hN := hN.ofGr ((Gr.refl _).drew.trans hg)
        have hB5 := hB5.gr ((Gr.refl _).drew.trans hg)
        have hB8 := hB8.gr ((Gr.refl _).drew.trans hg)
        have hB9 := hB9.gr ((Gr.refl _).drew.trans hg)
        have hB10 := hB10.gr ((Gr.refl _).drew.trans hg)
        have f20 := hd 20 (by decide) _ rfl
        have f18 := hd 18 (by decide) _ rfl
        have e20 : σ 20 = _ := f20.1 hon
        have e18 : σ 18 = _ := f18.1 trivial
        have hgd : σ 18 = .bool false := hon
        have hgb := (f18.1 trivial : σ 18 = _).symm.trans hgd
        simp only [Value.bool.injEq] at hgb
        try simp only [decide_eq_true_eq, decide_eq_false_iff_not, Bool.or_eq_true, Bool.and_eq_true, Bool.or_eq_false_iff, Bool.and_eq_false_iff, Bool.not_eq_true', Bool.not_eq_false', Int.not_lt, Int.not_le, ne_eq, Decidable.not_not] at hgb
        skip
        exact CallOK.sub (r := [(53, _), (0, _), (5, _), (6, _), (7, _), (8, _), (9, _), (10, _)]) ⟨congrArg some e20, rfl, rfl, rfl, rfl, rfl, rfl, rfl, trivial⟩ (by
          exact CallOK.V (enters_of rfl rfl hb15) (by have hz := valid_ret hN.sat hL; exact hz))
        ), (fun _ _ _ _ _ _ h => h), (fun _ _ _ _ _ _ h => h), ?_⟩
    refine ⟨_, false, (fun σ ι w1 hg hd hon => by
        have f18 := hd 18 (by decide) _ rfl
        have e18 : σ 18 = _ := f18.1 trivial
        have hgd : σ 18 = .bool false := hon
        have hgb := (f18.1 trivial : σ 18 = _).symm.trans hgd
        simp only [Value.bool.injEq] at hgb
        try simp only [decide_eq_true_eq, decide_eq_false_iff_not, Bool.or_eq_true, Bool.and_eq_true, Bool.or_eq_false_iff, Bool.and_eq_false_iff, Bool.not_eq_true', Bool.not_eq_false', Int.not_lt, Int.not_le, ne_eq, Decidable.not_not] at hgb
        exact OpOK.sub (r := [(0, _), (5, _), (6, _), (7, _), (8, _), (9, _), (10, _)]) ⟨rfl, rfl, rfl, rfl, rfl, rfl, rfl, trivial⟩ (by
          exact OpOK.eq (r_fld fld30_0 rfl))
        ), (fun _ _ _ _ _ _ h => h), (FreeR.no _), ?_⟩
    refine ⟨_, false, (fun σ ι w1 hg hd hon => by
        have hN := hN.ofGr ((Gr.refl _).drew.trans hg)
        have hB5 := hB5.gr ((Gr.refl _).drew.trans hg)
        have hB8 := hB8.gr ((Gr.refl _).drew.trans hg)
        have hB9 := hB9.gr ((Gr.refl _).drew.trans hg)
        have hB10 := hB10.gr ((Gr.refl _).drew.trans hg)
        have f22 := hd 22 (by decide) _ rfl
        have f18 := hd 18 (by decide) _ rfl
        have e22 : σ 22 = _ := f22.1 hon
        have e18 : σ 18 = _ := f18.1 trivial
        have hgd : σ 18 = .bool false := hon
        have hgb := (f18.1 trivial : σ 18 = _).symm.trans hgd
        simp only [Value.bool.injEq] at hgb
        try simp only [decide_eq_true_eq, decide_eq_false_iff_not, Bool.or_eq_true, Bool.and_eq_true, Bool.or_eq_false_iff, Bool.and_eq_false_iff, Bool.not_eq_true', Bool.not_eq_false', Int.not_lt, Int.not_le, ne_eq, Decidable.not_not] at hgb
        exact OpOK.sub (r := [(55, _), (0, _), (5, _), (6, _), (7, _), (8, _), (9, _), (10, _)]) ⟨congrArg some e22, rfl, rfl, rfl, rfl, rfl, rfl, rfl, trivial⟩ (by
          exact OpOK.eq (Box.loadO ag26 rfl hB5 (by simp)))
        ), (fun _ _ _ _ _ _ h => h), (FreeR.no _), ?_⟩
    refine ⟨_, true, (fun σ ι w1 hg hd hon => by
        have hN := hN.ofGr ((Gr.refl _).drew.trans hg)
        have hB5 := hB5.gr ((Gr.refl _).drew.trans hg)
        have hB8 := hB8.gr ((Gr.refl _).drew.trans hg)
        have hB9 := hB9.gr ((Gr.refl _).drew.trans hg)
        have hB10 := hB10.gr ((Gr.refl _).drew.trans hg)
        have f23 := hd 23 (by decide) _ rfl
        have f18 := hd 18 (by decide) _ rfl
        have e23 : σ 23 = _ := f23.1 hon
        have e18 : σ 18 = _ := f18.1 trivial
        have hgd : σ 18 = .bool false := hon
        have hgb := (f18.1 trivial : σ 18 = _).symm.trans hgd
        simp only [Value.bool.injEq] at hgb
        try simp only [decide_eq_true_eq, decide_eq_false_iff_not, Bool.or_eq_true, Bool.and_eq_true, Bool.or_eq_false_iff, Bool.and_eq_false_iff, Bool.not_eq_true', Bool.not_eq_false', Int.not_lt, Int.not_le, ne_eq, Decidable.not_not] at hgb
        skip
        exact CallOK.sub (r := [(56, _), (0, _), (5, _), (6, _), (7, _), (8, _), (9, _), (10, _)]) ⟨congrArg some e23, rfl, rfl, rfl, rfl, rfl, rfl, rfl, trivial⟩ (by
          exact CallOK.V (enters_of rfl rfl hb16) (by have hz := rvalid_ret hN.sat hL; exact hz))
        ), (fun _ _ _ _ _ _ h => h), (fun _ _ _ _ _ _ h => h), ?_⟩
    refine ⟨_, false, (fun σ ι w1 hg hd hon => by
        have f21 := hd 21 (by decide) _ rfl
        have f24 := hd 24 (by decide) _ rfl
        have f18 := hd 18 (by decide) _ rfl
        have e21 : σ 21 = _ := f21.1 hon
        have e24 : σ 24 = _ := f24.1 hon
        have e18 : σ 18 = _ := f18.1 trivial
        have hgd : σ 18 = .bool false := hon
        have hgb := (f18.1 trivial : σ 18 = _).symm.trans hgd
        simp only [Value.bool.injEq] at hgb
        try simp only [decide_eq_true_eq, decide_eq_false_iff_not, Bool.or_eq_true, Bool.and_eq_true, Bool.or_eq_false_iff, Bool.and_eq_false_iff, Bool.not_eq_true', Bool.not_eq_false', Int.not_lt, Int.not_le, ne_eq, Decidable.not_not] at hgb
        exact OpOK.sub (r := [(54, _), (57, _), (0, _), (5, _), (6, _), (7, _), (8, _), (9, _), (10, _)]) ⟨congrArg some e21, congrArg some e24, rfl, rfl, rfl, rfl, rfl, rfl, rfl, trivial⟩ (by
          exact OpOK.eq (r_neb Try.underlying4 rfl rfl))
        ), (fun _ _ _ _ _ _ h => h), (FreeR.no _), ?_⟩
    refine ⟨_, false, (fun σ ι w1 hg hd hon => by
        have f18 := hd 18 (by decide) _ rfl
        have f25 := hd 25 (by decide) _ rfl
        have e18 : σ 18 = _ := f18.1 trivial
        have ec : σ 18 = _ := f18.1 trivial
        exact OpOK.id (by refine OpOK.or (dc := 51) (dy := 58) (kc := σ 18) (ky := σ 25) ?_ ?_ ec (fun hb => f25.1 (by show σ 18 = _; rw [ec]; exact congrArg Value.bool hb)) <;> rfl)
        ), (fun _ _ _ _ _ _ h => h), (FreeR.no _), ?_⟩
    intro σ ι a23 w13 hgw13 H28 hd hap
    skip
    have hN0 := hN
    have hN := hN.ofGr ((Gr.refl _).drew.trans hgw13)
    replace hB5 := hB5.gr ((Gr.refl _).drew.trans hgw13)
    replace hB8 := hB8.gr ((Gr.refl _).drew.trans hgw13)
    replace hB9 := hB9.gr ((Gr.refl _).drew.trans hgw13)
    replace hB10 := hB10.gr ((Gr.refl _).drew.trans hgw13)
    have e26 : σ 26 = _ := (hd 26 (by decide) _ rfl).1 trivial
    replace H28 := H28.sub (r := [(59, _), (0, _), (5, _), (6, _), (7, _), (8, _), (9, _), (10, _)]) ⟨congrArg some e26, rfl, rfl, rfl, rfl, rfl, rfl, rfl, trivial⟩
    clear hd
    clear hap
    refine wl_end ?_
    refine th_n ?_
    first | refine w_if H28 rfl (fun hc59 => ?_) (fun hc59 => ?_) | refine w_cond H28 rfl (fun hc59 => ?_) (fun hc59 => ?_)
    ·
      exact absurd hc59 (by simp [hval])
    ·
      try simp only [decide_eq_true_eq, decide_eq_false_iff_not, Bool.or_eq_true, Bool.and_eq_true, Bool.or_eq_false_iff, Bool.and_eq_false_iff, Bool.not_eq_true', Bool.not_eq_false', Int.not_lt, Int.not_le, ne_eq, Decidable.not_not] at hc59
      refine wpIn_skip ?_
      refine th_n ?_
      refine wpIn_seq ?_
      refine w_reg ?_
      refine wl1 H28 (r_fld fld30_1 rfl) rfl rfl rfl rfl fun a24 H29 => ?_
      clear H28 a23
      refine wl1 H29 (Box.loadO ag28 rfl hB5 (by simp)) rfl rfl rfl rfl fun a25 H30 => ?_
      clear H29 a24
      refine s_alloc H30 zv28 rfl hN fun w14 b11 hN gw14 hB11 hgeb11 heb11 a26 H31 => ?_
      clear H30 a25
      replace hB11 : Box _ _ _ [.int .i64 0, .int .i64 0, .slice none 0 0, .int .u64 0] 28 := hB11
      have hne_hB5_b11 := hB5.lt
      rw [← heb11] at hne_hB5_b11
      have hne_hB8_b11 := hB8.lt
      rw [← heb11] at hne_hB8_b11
      have hne_hB9_b11 := hB9.lt
      rw [← heb11] at hne_hB9_b11
      have hne_hB10_b11 := hB10.lt
      rw [← heb11] at hne_hB10_b11
      replace hB5 := hB5.gr gw14
      replace hB8 := hB8.gr gw14
      replace hB9 := hB9.gr gw14
      replace hB10 := hB10.gr gw14
      refine s_storeA (vs := [_, _, _, _]) H31 sz28 (by simp) (by simp [Value.oneCell']) rfl rfl hN hB11 (by simp) hgeb11 fun w15 hN hB11 ew15 H32 => ?_
      clear H31
      replace hB5 := hB5.otherE ew15 (by omega)
      replace hB8 := hB8.otherE ew15 (by omega)
      replace hB9 := hB9.otherE ew15 (by omega)
      replace hB10 := hB10.otherE ew15 (by omega)
      simp only [Nat.zero_add, Nat.add_zero, Nat.reduceAdd, Nat.reduceMul, List.set_cons_zero, List.set_cons_succ, spliceL] at hB11
      clear ew15
      refine wl_end ?_
      refine th_n ?_
      refine wpIn_seq ?_
      refine w_reg ?_
      refine wl1 H32 (r_move rfl) rfl rfl rfl rfl fun a27 H33 => ?_
      clear H32 a26
      refine wl1 H33 (r_fld fld30_1 rfl) rfl rfl rfl rfl fun a28 H34 => ?_
      clear H33 a27
      refine wl1 H34 (Box.loadO ag28 rfl hB5 (by simp)) rfl rfl rfl rfl fun a29 H35 => ?_
      clear H34 a28
      refine wlc  H35 rfl rfl hb17 rfl (rtag50 hN.sat hP (by omega)) fun v w16 hR a30 H36 => ?_
      clear H35 a29
      obtain ⟨rfl, gw16⟩ := hR
      have hN := hN.ofGr gw16
      replace hB5 := hB5.gr gw16
      replace hB8 := hB8.gr gw16
      replace hB9 := hB9.gr gw16
      replace hB10 := hB10.gr gw16
      replace hB11 := hB11.gr gw16
      refine wl1 H36 (r_fld fld28_3 rfl) rfl rfl rfl rfl fun a31 H37 => ?_
      clear H36 a30
      refine s_store H37 sz22 rfl rfl rfl hN hB11 (by simp) hgeb11 fun w17 hN hB11 ew17 H38 => ?_
      clear H37
      replace hB5 := hB5.otherE ew17 (by omega)
      replace hB8 := hB8.otherE ew17 (by omega)
      replace hB9 := hB9.otherE ew17 (by omega)
      replace hB10 := hB10.otherE ew17 (by omega)
      simp only [Nat.zero_add, Nat.add_zero, Nat.reduceAdd, Nat.reduceMul, List.set_cons_zero, List.set_cons_succ, spliceL] at hB11
      clear ew17
      obtain ⟨q, hqd⟩ : ∃ q : Pk, q = { p with chk := ptag key p } := ⟨_, rfl⟩
      have hq : PkAt J4 q D cd := hqd ▸ ⟨hP.ks, hP.ka, ptag_inK _ _, hP.dc, hP.de⟩
      have hqd2 : q.data.length ≤ 300 := by rw [hqd]; exact hpl
      replace hB11 : Box J4 w17 b11 [.int .i64 q.seq, .int .i64 q.ack, .slice D q.data.length cd, .int .u64 q.chk] 28 := by rw [hqd]; exact hB11
      refine wl_end ?_
      refine th_n ?_
      refine wpIn_seq ?_
      refine w_reg ?_
      refine wl1 H38 (r_loadA (cs := [_, _, _, _, _]) ag26 rfl hB8.agg) rfl rfl rfl rfl fun a32 H39 => ?_
      clear H38 a31
      refine wlc  H39 rfl rfl hb18 rfl (ltaken_ret hN.sat hy hv) fun v w18 hR a33 H40 => ?_
      clear H39 a32
      obtain ⟨J18, nw18, ⟨D5, d5, A5, c5, A6, c6, rfl, hd5, hD5, hT5⟩⟩ := hR
      replace hb := hb.up nw18.le
      replace hL := hL.up nw18.le
      replace hP := hP.up nw18.le
      replace hD := hD.up nw18.le
      replace hy := hy.up nw18.le
      replace hq := hq.up nw18.le
      replace hB5 := hB5.next nw18
      replace hB8 := hB8.next nw18
      replace hB9 := hB9.next nw18
      replace hB10 := hB10.next nw18
      replace hB11 := hB11.next nw18
      have hN := hN.trans nw18
      refine s_alloc H40 zv41 rfl hN fun w19 b12 hN gw19 hB12 hgeb12 heb12 a34 H41 => ?_
      clear H40 a33
      replace hB12 : Box _ _ _ [.slice none 0 0, .int .u64 0, .slice none 0 0, .int .i64 0, .slice none 0 0, .int .i64 0, .int .i64 0] 41 := hB12
      have hne_hB5_b12 := hB5.lt
      rw [← heb12] at hne_hB5_b12
      have hne_hB8_b12 := hB8.lt
      rw [← heb12] at hne_hB8_b12
      have hne_hB9_b12 := hB9.lt
      rw [← heb12] at hne_hB9_b12
      have hne_hB10_b12 := hB10.lt
      rw [← heb12] at hne_hB10_b12
      have hne_hB11_b12 := hB11.lt
      rw [← heb12] at hne_hB11_b12
      replace hB5 := hB5.gr gw19
      replace hB8 := hB8.gr gw19
      replace hB9 := hB9.gr gw19
      replace hB10 := hB10.gr gw19
      replace hB11 := hB11.gr gw19
      refine s_storeA (vs := [_, _, _, _, _, _, _]) H41 sz41 (by simp) (by simp [Value.oneCell']) rfl rfl hN hB12 (by simp) hgeb12 fun w20 hN hB12 ew20 H42 => ?_
      clear H41
      replace hB5 := hB5.otherE ew20 (by omega)
      replace hB8 := hB8.otherE ew20 (by omega)
      replace hB9 := hB9.otherE ew20 (by omega)
      replace hB10 := hB10.otherE ew20 (by omega)
      replace hB11 := hB11.otherE ew20 (by omega)
      simp only [Nat.zero_add, Nat.add_zero, Nat.reduceAdd, Nat.reduceMul, List.set_cons_zero, List.set_cons_succ, spliceL] at hB12
      clear ew20
      refine wl_end ?_
      refine th_n ?_
      refine wpIn_seq ?_
      refine w_reg ?_
      refine wl1 H42 (r_loadA (cs := [_, _, _, _, _]) ag26 rfl hB8.agg) rfl rfl rfl rfl fun a35 H43 => ?_
      clear H42 a34
      refine wlc  H43 rfl rfl hb19 rfl (takein_ret hN.sat hy hv) fun v w21 hR a36 H44 => ?_
      clear H43 a35
      obtain ⟨J21, nw21, ⟨D7, d7, A7, c7, A8, c8, rfl, hd7, hD7, hT7⟩⟩ := hR
      replace hb := hb.up nw21.le
      replace hL := hL.up nw21.le
      replace hP := hP.up nw21.le
      replace hD := hD.up nw21.le
      replace hy := hy.up nw21.le
      replace hq := hq.up nw21.le
      replace hD5 := hD5.up nw21.le
      replace hT5 := hT5.up nw21.le
      replace hB5 := hB5.next nw21
      replace hB8 := hB8.next nw21
      replace hB9 := hB9.next nw21
      replace hB10 := hB10.next nw21
      replace hB11 := hB11.next nw21
      replace hB12 := hB12.next nw21
      have hN := hN.trans nw21
      refine s_alloc H44 zv41 rfl hN fun w22 b13 hN gw22 hB13 hgeb13 heb13 a37 H45 => ?_
      clear H44 a36
      replace hB13 : Box _ _ _ [.slice none 0 0, .int .u64 0, .slice none 0 0, .int .i64 0, .slice none 0 0, .int .i64 0, .int .i64 0] 41 := hB13
      have hne_hB5_b13 := hB5.lt
      rw [← heb13] at hne_hB5_b13
      have hne_hB8_b13 := hB8.lt
      rw [← heb13] at hne_hB8_b13
      have hne_hB9_b13 := hB9.lt
      rw [← heb13] at hne_hB9_b13
      have hne_hB10_b13 := hB10.lt
      rw [← heb13] at hne_hB10_b13
      have hne_hB11_b13 := hB11.lt
      rw [← heb13] at hne_hB11_b13
      have hne_hB12_b13 := hB12.lt
      rw [← heb13] at hne_hB12_b13
      replace hB5 := hB5.gr gw22
      replace hB8 := hB8.gr gw22
      replace hB9 := hB9.gr gw22
      replace hB10 := hB10.gr gw22
      replace hB11 := hB11.gr gw22
      replace hB12 := hB12.gr gw22
      refine s_storeA (vs := [_, _, _, _, _, _, _]) H45 sz41 (by simp) (by simp [Value.oneCell']) rfl rfl hN hB13 (by simp) hgeb13 fun w23 hN hB13 ew23 H46 => ?_
      clear H45
      replace hB5 := hB5.otherE ew23 (by omega)
      replace hB8 := hB8.otherE ew23 (by omega)
      replace hB9 := hB9.otherE ew23 (by omega)
      replace hB10 := hB10.otherE ew23 (by omega)
      replace hB11 := hB11.otherE ew23 (by omega)
      replace hB12 := hB12.otherE ew23 (by omega)
      simp only [Nat.zero_add, Nat.add_zero, Nat.reduceAdd, Nat.reduceMul, List.set_cons_zero, List.set_cons_succ, spliceL] at hB13
      clear ew23
      refine wl_end ?_
      refine th_n ?_
      refine wpIn_seq ?_
      refine w_reg ?_
      refine wl1 H46 (r_loadA (cs := [_, _, _, _, _]) ag26 rfl hB8.agg) rfl rfl rfl rfl fun a38 H47 => ?_
      clear H46 a37
      refine wl1 H47 (r_fld fld30_3 rfl) rfl rfl rfl rfl fun a39 H48 => ?_
      clear H47 a38
      refine wl1 H48 (r_load sc3 rfl (hB5.cell rfl)) rfl rfl rfl rfl fun a40 H49 => ?_
      clear H48 a39
      refine wlc  H49 rfl rfl hb20 rfl (lpacket_ret hN.sat hy hv hi) fun v w24 hR a41 H50 => ?_
      clear H49 a40
      obtain ⟨J24, nw24, ⟨A9, c9, rfl, hp9⟩⟩ := hR
      replace hb := hb.up nw24.le
      replace hL := hL.up nw24.le
      replace hP := hP.up nw24.le
      replace hD := hD.up nw24.le
      replace hy := hy.up nw24.le
      replace hq := hq.up nw24.le
      replace hD5 := hD5.up nw24.le
      replace hT5 := hT5.up nw24.le
      replace hD7 := hD7.up nw24.le
      replace hT7 := hT7.up nw24.le
      replace hB5 := hB5.next nw24
      replace hB8 := hB8.next nw24
      replace hB9 := hB9.next nw24
      replace hB10 := hB10.next nw24
      replace hB11 := hB11.next nw24
      replace hB12 := hB12.next nw24
      replace hB13 := hB13.next nw24
      have hN := hN.trans nw24
      refine s_alloc H50 zv44 rfl hN fun w25 b14 hN gw25 hB14 hgeb14 heb14 a42 H51 => ?_
      clear H50 a41
      replace hB14 : Box _ _ _ [.int .i64 0, .int .i64 0, .slice none 0 0, .int .u64 0, .int .i64 0] 44 := hB14
      have hne_hB5_b14 := hB5.lt
      rw [← heb14] at hne_hB5_b14
      have hne_hB8_b14 := hB8.lt
      rw [← heb14] at hne_hB8_b14
      have hne_hB9_b14 := hB9.lt
      rw [← heb14] at hne_hB9_b14
      have hne_hB10_b14 := hB10.lt
      rw [← heb14] at hne_hB10_b14
      have hne_hB11_b14 := hB11.lt
      rw [← heb14] at hne_hB11_b14
      have hne_hB12_b14 := hB12.lt
      rw [← heb14] at hne_hB12_b14
      have hne_hB13_b14 := hB13.lt
      rw [← heb14] at hne_hB13_b14
      replace hB5 := hB5.gr gw25
      replace hB8 := hB8.gr gw25
      replace hB9 := hB9.gr gw25
      replace hB10 := hB10.gr gw25
      replace hB11 := hB11.gr gw25
      replace hB12 := hB12.gr gw25
      replace hB13 := hB13.gr gw25
      refine s_storeA (vs := [_, _, _, _, _]) H51 sz44 (by simp) (by simp [Value.oneCell']) rfl rfl hN hB14 (by simp) hgeb14 fun w26 hN hB14 ew26 H52 => ?_
      clear H51
      replace hB5 := hB5.otherE ew26 (by omega)
      replace hB8 := hB8.otherE ew26 (by omega)
      replace hB9 := hB9.otherE ew26 (by omega)
      replace hB10 := hB10.otherE ew26 (by omega)
      replace hB11 := hB11.otherE ew26 (by omega)
      replace hB12 := hB12.otherE ew26 (by omega)
      replace hB13 := hB13.otherE ew26 (by omega)
      simp only [Nat.zero_add, Nat.add_zero, Nat.reduceAdd, Nat.reduceMul, List.set_cons_zero, List.set_cons_succ, spliceL] at hB14
      clear ew26
      refine wl_end ?_
      refine th_n ?_
      refine wpIn_seq ?_
      refine w_reg ?_
      refine wl1 H52 (r_loadA (cs := [_, _, _, _, _]) ag26 rfl hB8.agg) rfl rfl rfl rfl fun a43 H53 => ?_
      clear H52 a42
      refine wl1 H53 (r_fld fld30_3 rfl) rfl rfl rfl rfl fun a44 H54 => ?_
      clear H53 a43
      refine wl1 H54 (r_load sc3 rfl (hB5.cell rfl)) rfl rfl rfl rfl fun a45 H55 => ?_
      clear H54 a44
      refine wlc  H55 rfl rfl hb21 rfl (rpacket_ret hN.sat hy hv hi) fun v w27 hR a46 H56 => ?_
      clear H55 a45
      obtain ⟨J27, nw27, ⟨A10, c10, rfl, hp10⟩⟩ := hR
      replace hb := hb.up nw27.le
      replace hL := hL.up nw27.le
      replace hP := hP.up nw27.le
      replace hD := hD.up nw27.le
      replace hy := hy.up nw27.le
      replace hq := hq.up nw27.le
      replace hD5 := hD5.up nw27.le
      replace hT5 := hT5.up nw27.le
      replace hD7 := hD7.up nw27.le
      replace hT7 := hT7.up nw27.le
      replace hp9 := hp9.up nw27.le
      replace hB5 := hB5.next nw27
      replace hB8 := hB8.next nw27
      replace hB9 := hB9.next nw27
      replace hB10 := hB10.next nw27
      replace hB11 := hB11.next nw27
      replace hB12 := hB12.next nw27
      replace hB13 := hB13.next nw27
      replace hB14 := hB14.next nw27
      have hN := hN.trans nw27
      refine s_alloc H56 zv44 rfl hN fun w28 b15 hN gw28 hB15 hgeb15 heb15 a47 H57 => ?_
      clear H56 a46
      replace hB15 : Box _ _ _ [.int .i64 0, .int .i64 0, .slice none 0 0, .int .u64 0, .int .i64 0] 44 := hB15
      have hne_hB5_b15 := hB5.lt
      rw [← heb15] at hne_hB5_b15
      have hne_hB8_b15 := hB8.lt
      rw [← heb15] at hne_hB8_b15
      have hne_hB9_b15 := hB9.lt
      rw [← heb15] at hne_hB9_b15
      have hne_hB10_b15 := hB10.lt
      rw [← heb15] at hne_hB10_b15
      have hne_hB11_b15 := hB11.lt
      rw [← heb15] at hne_hB11_b15
      have hne_hB12_b15 := hB12.lt
      rw [← heb15] at hne_hB12_b15
      have hne_hB13_b15 := hB13.lt
      rw [← heb15] at hne_hB13_b15
      have hne_hB14_b15 := hB14.lt
      rw [← heb15] at hne_hB14_b15
      replace hB5 := hB5.gr gw28
      replace hB8 := hB8.gr gw28
      replace hB9 := hB9.gr gw28
      replace hB10 := hB10.gr gw28
      replace hB11 := hB11.gr gw28
      replace hB12 := hB12.gr gw28
      replace hB13 := hB13.gr gw28
      replace hB14 := hB14.gr gw28
      refine s_storeA (vs := [_, _, _, _, _]) H57 sz44 (by simp) (by simp [Value.oneCell']) rfl rfl hN hB15 (by simp) hgeb15 fun w29 hN hB15 ew29 H58 => ?_
      clear H57
      replace hB5 := hB5.otherE ew29 (by omega)
      replace hB8 := hB8.otherE ew29 (by omega)
      replace hB9 := hB9.otherE ew29 (by omega)
      replace hB10 := hB10.otherE ew29 (by omega)
      replace hB11 := hB11.otherE ew29 (by omega)
      replace hB12 := hB12.otherE ew29 (by omega)
      replace hB13 := hB13.otherE ew29 (by omega)
      replace hB14 := hB14.otherE ew29 (by omega)
      simp only [Nat.zero_add, Nat.add_zero, Nat.reduceAdd, Nat.reduceMul, List.set_cons_zero, List.set_cons_succ, spliceL] at hB15
      clear ew29
      refine wl_end ?_
      refine th_n ?_
      refine wpIn_seq ?_
      refine wpIn_seq ?_
      have hS0 := hN.sat
      have hNsz14 := hN.gr.size
      refine w_drawE (m := 55) (l0 := [(5, _), (6, _), (7, _), (8, _), (11, _), (12, _), (13, _), (14, _), (15, _)]) hfol H58 ⟨rfl, rfl, rfl, rfl, rfl, rfl, rfl, rfl, rfl, trivial⟩ (by kernel_rfl) ?_
      refine ⟨_, false, (fun σ ι w1 hg hd hon => by
          have hN := hN.ofGr ((Gr.refl _).drew.trans hg)
          have hB5 := hB5.gr ((Gr.refl _).drew.trans hg)
          have hB8 := hB8.gr ((Gr.refl _).drew.trans hg)
          have hB9 := hB9.gr ((Gr.refl _).drew.trans hg)
          have hB10 := hB10.gr ((Gr.refl _).drew.trans hg)
          have hB11 := hB11.gr ((Gr.refl _).drew.trans hg)
          have hB12 := hB12.gr ((Gr.refl _).drew.trans hg)
          have hB13 := hB13.gr ((Gr.refl _).drew.trans hg)
          have hB14 := hB14.gr ((Gr.refl _).drew.trans hg)
          have hB15 := hB15.gr ((Gr.refl _).drew.trans hg)
          exact OpOK.sub (r := [(5, _), (6, _), (7, _), (8, _), (11, _), (12, _), (13, _), (14, _), (15, _)]) ⟨rfl, rfl, rfl, rfl, rfl, rfl, rfl, rfl, rfl, trivial⟩ (by
            exact OpOK.eq (r_loadA (cs := [_, _, _, _, _]) ag26 rfl hB8.agg))
          ), (fun _ _ _ _ _ _ h => h), (FreeR.no _), ?_⟩
      refine ⟨_, false, (fun σ ι w1 hg hd hon => by
          exact OpOK.sub (r := [(5, _), (6, _), (7, _), (8, _), (11, _), (12, _), (13, _), (14, _), (15, _)]) ⟨rfl, rfl, rfl, rfl, rfl, rfl, rfl, rfl, rfl, trivial⟩ (by
            exact OpOK.eq (r_fld fld30_2 rfl))
          ), (fun _ _ _ _ _ _ h => h), (FreeR.no _), ?_⟩
      refine ⟨_, false, (fun σ ι w1 hg hd hon => by
          have hN := hN.ofGr ((Gr.refl _).drew.trans hg)
          have hB5 := hB5.gr ((Gr.refl _).drew.trans hg)
          have hB8 := hB8.gr ((Gr.refl _).drew.trans hg)
          have hB9 := hB9.gr ((Gr.refl _).drew.trans hg)
          have hB10 := hB10.gr ((Gr.refl _).drew.trans hg)
          have hB11 := hB11.gr ((Gr.refl _).drew.trans hg)
          have hB12 := hB12.gr ((Gr.refl _).drew.trans hg)
          have hB13 := hB13.gr ((Gr.refl _).drew.trans hg)
          have hB14 := hB14.gr ((Gr.refl _).drew.trans hg)
          have hB15 := hB15.gr ((Gr.refl _).drew.trans hg)
          have f1 := hd 1 (by decide) _ rfl
          have e1 : σ 1 = _ := f1.1 trivial
          exact OpOK.sub (r := [(80, _), (5, _), (6, _), (7, _), (8, _), (11, _), (12, _), (13, _), (14, _), (15, _)]) ⟨congrArg some e1, rfl, rfl, rfl, rfl, rfl, rfl, rfl, rfl, rfl, trivial⟩ (by
            exact OpOK.eq (r_load sc23 rfl (hB5.cell rfl)))
          ), (fun _ _ _ _ _ _ h => h), (FreeR.no _), ?_⟩
      refine ⟨_, true, (fun σ ι w1 hg hd hon => by
          have hN := hN.ofGr ((Gr.refl _).drew.trans hg)
          have hB5 := hB5.gr ((Gr.refl _).drew.trans hg)
          have hB8 := hB8.gr ((Gr.refl _).drew.trans hg)
          have hB9 := hB9.gr ((Gr.refl _).drew.trans hg)
          have hB10 := hB10.gr ((Gr.refl _).drew.trans hg)
          have hB11 := hB11.gr ((Gr.refl _).drew.trans hg)
          have hB12 := hB12.gr ((Gr.refl _).drew.trans hg)
          have hB13 := hB13.gr ((Gr.refl _).drew.trans hg)
          have hB14 := hB14.gr ((Gr.refl _).drew.trans hg)
          have hB15 := hB15.gr ((Gr.refl _).drew.trans hg)
          have f0 := hd 0 (by decide) _ rfl
          have f2 := hd 2 (by decide) _ rfl
          have e0 : σ 0 = _ := f0.1 trivial
          have e2 : σ 2 = _ := f2.1 trivial
          skip
          exact CallOK.sub (r := [(79, _), (81, _), (5, _), (6, _), (7, _), (8, _), (11, _), (12, _), (13, _), (14, _), (15, _)]) ⟨congrArg some e0, congrArg some e2, rfl, rfl, rfl, rfl, rfl, rfl, rfl, rfl, rfl, trivial⟩ (by
            exact CallOK.M (Φ := SΦ (lsend y d) (lsendE y d)) (enters_of rfl rfl hb23) (lsent_ret hN.sat hy hv hD hdc))
          ), (by exact monoOwn (J := J27) (Φ := fun _ => SΦ (lsend y d) (lsendE y d))), (fun _ _ _ _ _ _ h => h), ?_⟩
      refine ⟨_, false, (fun σ ι w1 hg hd hon => by
          have hN := hN.ofGr ((Gr.refl _).drew.trans hg)
          have hB5 := hB5.gr ((Gr.refl _).drew.trans hg)
          have hB8 := hB8.gr ((Gr.refl _).drew.trans hg)
          have hB9 := hB9.gr ((Gr.refl _).drew.trans hg)
          have hB10 := hB10.gr ((Gr.refl _).drew.trans hg)
          have hB11 := hB11.gr ((Gr.refl _).drew.trans hg)
          have hB12 := hB12.gr ((Gr.refl _).drew.trans hg)
          have hB13 := hB13.gr ((Gr.refl _).drew.trans hg)
          have hB14 := hB14.gr ((Gr.refl _).drew.trans hg)
          have hB15 := hB15.gr ((Gr.refl _).drew.trans hg)
          exact OpOK.sub (r := [(5, _), (6, _), (7, _), (8, _), (11, _), (12, _), (13, _), (14, _), (15, _)]) ⟨rfl, rfl, rfl, rfl, rfl, rfl, rfl, rfl, rfl, trivial⟩ (by
            exact OpOK.eq (r_loadA (cs := [_, _, _, _, _]) ag26 rfl hB8.agg))
          ), (fun _ _ _ _ _ _ h => h), (FreeR.no _), ?_⟩
      refine ⟨_, false, (fun σ ι w1 hg hd hon => by
          exact OpOK.sub (r := [(5, _), (6, _), (7, _), (8, _), (11, _), (12, _), (13, _), (14, _), (15, _)]) ⟨rfl, rfl, rfl, rfl, rfl, rfl, rfl, rfl, rfl, trivial⟩ (by
            exact OpOK.eq (r_fld fld30_2 rfl))
          ), (fun _ _ _ _ _ _ h => h), (FreeR.no _), ?_⟩
      refine ⟨_, false, (fun σ ι w1 hg hd hon => by
          have hN := hN.ofGr ((Gr.refl _).drew.trans hg)
          have hB5 := hB5.gr ((Gr.refl _).drew.trans hg)
          have hB8 := hB8.gr ((Gr.refl _).drew.trans hg)
          have hB9 := hB9.gr ((Gr.refl _).drew.trans hg)
          have hB10 := hB10.gr ((Gr.refl _).drew.trans hg)
          have hB11 := hB11.gr ((Gr.refl _).drew.trans hg)
          have hB12 := hB12.gr ((Gr.refl _).drew.trans hg)
          have hB13 := hB13.gr ((Gr.refl _).drew.trans hg)
          have hB14 := hB14.gr ((Gr.refl _).drew.trans hg)
          have hB15 := hB15.gr ((Gr.refl _).drew.trans hg)
          have f5 := hd 5 (by decide) _ rfl
          have e5 : σ 5 = _ := f5.1 trivial
          exact OpOK.sub (r := [(84, _), (5, _), (6, _), (7, _), (8, _), (11, _), (12, _), (13, _), (14, _), (15, _)]) ⟨congrArg some e5, rfl, rfl, rfl, rfl, rfl, rfl, rfl, rfl, rfl, trivial⟩ (by
            exact OpOK.eq (r_load sc23 rfl (hB5.cell rfl)))
          ), (fun _ _ _ _ _ _ h => h), (FreeR.no _), ?_⟩
      refine ⟨_, true, (fun σ ι w1 hg hd hon => by
          have hN := hN.ofGr ((Gr.refl _).drew.trans hg)
          have hB5 := hB5.gr ((Gr.refl _).drew.trans hg)
          have hB8 := hB8.gr ((Gr.refl _).drew.trans hg)
          have hB9 := hB9.gr ((Gr.refl _).drew.trans hg)
          have hB10 := hB10.gr ((Gr.refl _).drew.trans hg)
          have hB11 := hB11.gr ((Gr.refl _).drew.trans hg)
          have hB12 := hB12.gr ((Gr.refl _).drew.trans hg)
          have hB13 := hB13.gr ((Gr.refl _).drew.trans hg)
          have hB14 := hB14.gr ((Gr.refl _).drew.trans hg)
          have hB15 := hB15.gr ((Gr.refl _).drew.trans hg)
          have f4 := hd 4 (by decide) _ rfl
          have f6 := hd 6 (by decide) _ rfl
          have e4 : σ 4 = _ := f4.1 trivial
          have e6 : σ 6 = _ := f6.1 trivial
          skip
          exact CallOK.sub (r := [(83, _), (85, _), (5, _), (6, _), (7, _), (8, _), (11, _), (12, _), (13, _), (14, _), (15, _)]) ⟨congrArg some e4, congrArg some e6, rfl, rfl, rfl, rfl, rfl, rfl, rfl, rfl, rfl, trivial⟩ (by
            exact CallOK.M (Φ := SΦ (lsend y d) (lsendE y d)) (enters_of rfl rfl hb24) (sendin_ret hN.sat hy hv hD hdc))
          ), (by exact monoOwn (J := J27) (Φ := fun _ => SΦ (lsend y d) (lsendE y d))), (fun _ _ _ _ _ _ h => h), ?_⟩
      refine ⟨_, true, (fun σ ι w1 hg hd hon => by
          have hN := hN.ofGr ((Gr.refl _).drew.trans hg)
          have hB5 := hB5.gr ((Gr.refl _).drew.trans hg)
          have hB8 := hB8.gr ((Gr.refl _).drew.trans hg)
          have hB9 := hB9.gr ((Gr.refl _).drew.trans hg)
          have hB10 := hB10.gr ((Gr.refl _).drew.trans hg)
          have hB11 := hB11.gr ((Gr.refl _).drew.trans hg)
          have hB12 := hB12.gr ((Gr.refl _).drew.trans hg)
          have hB13 := hB13.gr ((Gr.refl _).drew.trans hg)
          have hB14 := hB14.gr ((Gr.refl _).drew.trans hg)
          have hB15 := hB15.gr ((Gr.refl _).drew.trans hg)
          have f3 := hd 3 (by decide) _ rfl
          have f7 := hd 7 (by decide) _ rfl
          have e3 := f3.1 trivial
          obtain ⟨K3, hP3, A3, c3, B3, d3, e3, hK3⟩ := e3
          have e7 := f7.1 trivial
          obtain ⟨K7, hP7, A7, c7, B7, d7, e7, hK7⟩ := e7
          skip
          exact CallOK.sub (r := [(82, _), (86, _), (5, _), (6, _), (7, _), (8, _), (11, _), (12, _), (13, _), (14, _), (15, _)]) ⟨congrArg some e3, congrArg some e7, rfl, rfl, rfl, rfl, rfl, rfl, rfl, rfl, rfl, trivial⟩ (by
            exact CallOK.V (enters_of rfl rfl hb22) (by have hz := lalike (e := lsendE y d) (e2 := lsendE y d) (joinI_sat hP3.sat hP7.sat) (hK3.up (joinI_left _ _)) (hK7.up (joinI_right hP3.sat hP7.sat)); exact hz))
          ), (fun _ _ _ _ _ _ h => h), (fun _ _ _ _ _ _ h => h), ?_⟩
      refine ⟨_, false, (fun σ ι w1 hg hd hon => by
          have f8 := hd 8 (by decide) _ rfl
          have e8 : σ 8 = _ := f8.1 trivial
          exact OpOK.sub (r := [(87, _), (5, _), (6, _), (7, _), (8, _), (11, _), (12, _), (13, _), (14, _), (15, _)]) ⟨congrArg some e8, rfl, rfl, rfl, rfl, rfl, rfl, rfl, rfl, rfl, trivial⟩ (by
            exact OpOK.eq (r_not rfl))
          ), (fun _ _ _ _ _ _ h => h), (FreeR.no _), ?_⟩
      refine ⟨_, false, (fun σ ι w1 hg hd hon => by
          have f9 := hd 9 (by decide) _ rfl
          have e9 : σ 9 = _ := f9.1 trivial
          exact OpOK.sub (r := [(88, _), (5, _), (6, _), (7, _), (8, _), (11, _), (12, _), (13, _), (14, _), (15, _)]) ⟨congrArg some e9, rfl, rfl, rfl, rfl, rfl, rfl, rfl, rfl, rfl, trivial⟩ (by
            exact OpOK.eq (r_move rfl))
          ), (fun _ _ _ _ _ _ h => h), (FreeR.no _), ?_⟩
      refine ⟨_, false, (fun σ ι w1 hg hd hon => by
          have hN := hN.ofGr ((Gr.refl _).drew.trans hg)
          have hB5 := hB5.gr ((Gr.refl _).drew.trans hg)
          have hB8 := hB8.gr ((Gr.refl _).drew.trans hg)
          have hB9 := hB9.gr ((Gr.refl _).drew.trans hg)
          have hB10 := hB10.gr ((Gr.refl _).drew.trans hg)
          have hB11 := hB11.gr ((Gr.refl _).drew.trans hg)
          have hB12 := hB12.gr ((Gr.refl _).drew.trans hg)
          have hB13 := hB13.gr ((Gr.refl _).drew.trans hg)
          have hB14 := hB14.gr ((Gr.refl _).drew.trans hg)
          have hB15 := hB15.gr ((Gr.refl _).drew.trans hg)
          have f10 := hd 10 (by decide) _ rfl
          have e10 : σ 10 = _ := f10.1 trivial
          have hgd : σ 10 = .bool false := hon
          have hgb := (f10.1 trivial : σ 10 = _).symm.trans hgd
          simp only [Value.bool.injEq] at hgb
          try simp only [decide_eq_true_eq, decide_eq_false_iff_not, Bool.or_eq_true, Bool.and_eq_true, Bool.or_eq_false_iff, Bool.and_eq_false_iff, Bool.not_eq_true', Bool.not_eq_false', Int.not_lt, Int.not_le, ne_eq, Decidable.not_not] at hgb
          exact OpOK.sub (r := [(5, _), (6, _), (7, _), (8, _), (11, _), (12, _), (13, _), (14, _), (15, _)]) ⟨rfl, rfl, rfl, rfl, rfl, rfl, rfl, rfl, rfl, trivial⟩ (by
            exact OpOK.eq (r_loadA (cs := [_, _, _, _, _]) ag26 rfl hB8.agg))
          ), (fun _ _ _ _ _ _ h => h), (FreeR.no _), ?_⟩
      refine ⟨_, false, (fun σ ι w1 hg hd hon => by
          have f10 := hd 10 (by decide) _ rfl
          have e10 : σ 10 = _ := f10.1 trivial
          have hgd : σ 10 = .bool false := hon
          have hgb := (f10.1 trivial : σ 10 = _).symm.trans hgd
          simp only [Value.bool.injEq] at hgb
          try simp only [decide_eq_true_eq, decide_eq_false_iff_not, Bool.or_eq_true, Bool.and_eq_true, Bool.or_eq_false_iff, Bool.and_eq_false_iff, Bool.not_eq_true', Bool.not_eq_false', Int.not_lt, Int.not_le, ne_eq, Decidable.not_not] at hgb
          exact OpOK.sub (r := [(5, _), (6, _), (7, _), (8, _), (11, _), (12, _), (13, _), (14, _), (15, _)]) ⟨rfl, rfl, rfl, rfl, rfl, rfl, rfl, rfl, rfl, trivial⟩ (by
            exact OpOK.eq (r_fld fld30_1 rfl))
          ), (fun _ _ _ _ _ _ h => h), (FreeR.no _), ?_⟩
      refine ⟨_, false, (fun σ ι w1 hg hd hon => by
          have hN := hN.ofGr ((Gr.refl _).drew.trans hg)
          have hB5 := hB5.gr ((Gr.refl _).drew.trans hg)
          have hB8 := hB8.gr ((Gr.refl _).drew.trans hg)
          have hB9 := hB9.gr ((Gr.refl _).drew.trans hg)
          have hB10 := hB10.gr ((Gr.refl _).drew.trans hg)
          have hB11 := hB11.gr ((Gr.refl _).drew.trans hg)
          have hB12 := hB12.gr ((Gr.refl _).drew.trans hg)
          have hB13 := hB13.gr ((Gr.refl _).drew.trans hg)
          have hB14 := hB14.gr ((Gr.refl _).drew.trans hg)
          have hB15 := hB15.gr ((Gr.refl _).drew.trans hg)
          have f12 := hd 12 (by decide) _ rfl
          have f10 := hd 10 (by decide) _ rfl
          have e12 : σ 12 = _ := f12.1 hon
          have e10 : σ 10 = _ := f10.1 trivial
          have hgd : σ 10 = .bool false := hon
          have hgb := (f10.1 trivial : σ 10 = _).symm.trans hgd
          simp only [Value.bool.injEq] at hgb
          try simp only [decide_eq_true_eq, decide_eq_false_iff_not, Bool.or_eq_true, Bool.and_eq_true, Bool.or_eq_false_iff, Bool.and_eq_false_iff, Bool.not_eq_true', Bool.not_eq_false', Int.not_lt, Int.not_le, ne_eq, Decidable.not_not] at hgb
          exact OpOK.sub (r := [(91, _), (5, _), (6, _), (7, _), (8, _), (11, _), (12, _), (13, _), (14, _), (15, _)]) ⟨congrArg some e12, rfl, rfl, rfl, rfl, rfl, rfl, rfl, rfl, rfl, trivial⟩ (by
            exact OpOK.eq (Box.loadO ag28 rfl hB5 (by simp)))
          ), (fun _ _ _ _ _ _ h => h), (FreeR.no _), ?_⟩
      refine ⟨_, true, (fun σ ι w1 hg hd hon => by
          have hN := hN.ofGr ((Gr.refl _).drew.trans hg)
          have hB5 := hB5.gr ((Gr.refl _).drew.trans hg)
          have hB8 := hB8.gr ((Gr.refl _).drew.trans hg)
          have hB9 := hB9.gr ((Gr.refl _).drew.trans hg)
          have hB10 := hB10.gr ((Gr.refl _).drew.trans hg)
          have hB11 := hB11.gr ((Gr.refl _).drew.trans hg)
          have hB12 := hB12.gr ((Gr.refl _).drew.trans hg)
          have hB13 := hB13.gr ((Gr.refl _).drew.trans hg)
          have hB14 := hB14.gr ((Gr.refl _).drew.trans hg)
          have hB15 := hB15.gr ((Gr.refl _).drew.trans hg)
          have f11 := hd 11 (by decide) _ rfl
          have f13 := hd 13 (by decide) _ rfl
          have f10 := hd 10 (by decide) _ rfl
          have e11 : σ 11 = _ := f11.1 hon
          have e13 : σ 13 = _ := f13.1 hon
          have e10 : σ 10 = _ := f10.1 trivial
          have hgd : σ 10 = .bool false := hon
          have hgb := (f10.1 trivial : σ 10 = _).symm.trans hgd
          simp only [Value.bool.injEq] at hgb
          try simp only [decide_eq_true_eq, decide_eq_false_iff_not, Bool.or_eq_true, Bool.and_eq_true, Bool.or_eq_false_iff, Bool.and_eq_false_iff, Bool.not_eq_true', Bool.not_eq_false', Int.not_lt, Int.not_le, ne_eq, Decidable.not_not] at hgb
          skip
          exact CallOK.sub (r := [(90, _), (92, _), (5, _), (6, _), (7, _), (8, _), (11, _), (12, _), (13, _), (14, _), (15, _)]) ⟨congrArg some e11, congrArg some e13, rfl, rfl, rfl, rfl, rfl, rfl, rfl, rfl, rfl, trivial⟩ (by
            exact CallOK.M (Φ := SΦ (lrec y p) (lrecE y p)) (enters_of rfl rfl hb25) (lreceived_ret hN.sat hy hv hP))
          ), (by exact monoOwn (J := J27) (Φ := fun _ => SΦ (lrec y p) (lrecE y p))), (fun _ _ _ _ _ _ h => h), ?_⟩
      refine ⟨_, false, (fun σ ι w1 hg hd hon => by
          have hN := hN.ofGr ((Gr.refl _).drew.trans hg)
          have hB5 := hB5.gr ((Gr.refl _).drew.trans hg)
          have hB8 := hB8.gr ((Gr.refl _).drew.trans hg)
          have hB9 := hB9.gr ((Gr.refl _).drew.trans hg)
          have hB10 := hB10.gr ((Gr.refl _).drew.trans hg)
          have hB11 := hB11.gr ((Gr.refl _).drew.trans hg)
          have hB12 := hB12.gr ((Gr.refl _).drew.trans hg)
          have hB13 := hB13.gr ((Gr.refl _).drew.trans hg)
          have hB14 := hB14.gr ((Gr.refl _).drew.trans hg)
          have hB15 := hB15.gr ((Gr.refl _).drew.trans hg)
          have f10 := hd 10 (by decide) _ rfl
          have e10 : σ 10 = _ := f10.1 trivial
          have hgd : σ 10 = .bool false := hon
          have hgb := (f10.1 trivial : σ 10 = _).symm.trans hgd
          simp only [Value.bool.injEq] at hgb
          try simp only [decide_eq_true_eq, decide_eq_false_iff_not, Bool.or_eq_true, Bool.and_eq_true, Bool.or_eq_false_iff, Bool.and_eq_false_iff, Bool.not_eq_true', Bool.not_eq_false', Int.not_lt, Int.not_le, ne_eq, Decidable.not_not] at hgb
          exact OpOK.sub (r := [(5, _), (6, _), (7, _), (8, _), (11, _), (12, _), (13, _), (14, _), (15, _)]) ⟨rfl, rfl, rfl, rfl, rfl, rfl, rfl, rfl, rfl, trivial⟩ (by
            exact OpOK.eq (r_loadA (cs := [_, _, _, _, _]) ag26 rfl hB8.agg))
          ), (fun _ _ _ _ _ _ h => h), (FreeR.no _), ?_⟩
      refine ⟨_, false, (fun σ ι w1 hg hd hon => by
          have f10 := hd 10 (by decide) _ rfl
          have e10 : σ 10 = _ := f10.1 trivial
          have hgd : σ 10 = .bool false := hon
          have hgb := (f10.1 trivial : σ 10 = _).symm.trans hgd
          simp only [Value.bool.injEq] at hgb
          try simp only [decide_eq_true_eq, decide_eq_false_iff_not, Bool.or_eq_true, Bool.and_eq_true, Bool.or_eq_false_iff, Bool.and_eq_false_iff, Bool.not_eq_true', Bool.not_eq_false', Int.not_lt, Int.not_le, ne_eq, Decidable.not_not] at hgb
          exact OpOK.sub (r := [(5, _), (6, _), (7, _), (8, _), (11, _), (12, _), (13, _), (14, _), (15, _)]) ⟨rfl, rfl, rfl, rfl, rfl, rfl, rfl, rfl, rfl, trivial⟩ (by
            exact OpOK.eq (r_fld fld30_1 rfl))
          ), (fun _ _ _ _ _ _ h => h), (FreeR.no _), ?_⟩
      refine ⟨_, false, (fun σ ι w1 hg hd hon => by
          have hN := hN.ofGr ((Gr.refl _).drew.trans hg)
          have hB5 := hB5.gr ((Gr.refl _).drew.trans hg)
          have hB8 := hB8.gr ((Gr.refl _).drew.trans hg)
          have hB9 := hB9.gr ((Gr.refl _).drew.trans hg)
          have hB10 := hB10.gr ((Gr.refl _).drew.trans hg)
          have hB11 := hB11.gr ((Gr.refl _).drew.trans hg)
          have hB12 := hB12.gr ((Gr.refl _).drew.trans hg)
          have hB13 := hB13.gr ((Gr.refl _).drew.trans hg)
          have hB14 := hB14.gr ((Gr.refl _).drew.trans hg)
          have hB15 := hB15.gr ((Gr.refl _).drew.trans hg)
          have f16 := hd 16 (by decide) _ rfl
          have f10 := hd 10 (by decide) _ rfl
          have e16 : σ 16 = _ := f16.1 hon
          have e10 : σ 10 = _ := f10.1 trivial
          have hgd : σ 10 = .bool false := hon
          have hgb := (f10.1 trivial : σ 10 = _).symm.trans hgd
          simp only [Value.bool.injEq] at hgb
          try simp only [decide_eq_true_eq, decide_eq_false_iff_not, Bool.or_eq_true, Bool.and_eq_true, Bool.or_eq_false_iff, Bool.and_eq_false_iff, Bool.not_eq_true', Bool.not_eq_false', Int.not_lt, Int.not_le, ne_eq, Decidable.not_not] at hgb
          exact OpOK.sub (r := [(95, _), (5, _), (6, _), (7, _), (8, _), (11, _), (12, _), (13, _), (14, _), (15, _)]) ⟨congrArg some e16, rfl, rfl, rfl, rfl, rfl, rfl, rfl, rfl, rfl, trivial⟩ (by
            exact OpOK.eq (Box.loadO ag28 rfl hB5 (by simp)))
          ), (fun _ _ _ _ _ _ h => h), (FreeR.no _), ?_⟩
      refine ⟨_, true, (fun σ ι w1 hg hd hon => by
          have hN := hN.ofGr ((Gr.refl _).drew.trans hg)
          have hB5 := hB5.gr ((Gr.refl _).drew.trans hg)
          have hB8 := hB8.gr ((Gr.refl _).drew.trans hg)
          have hB9 := hB9.gr ((Gr.refl _).drew.trans hg)
          have hB10 := hB10.gr ((Gr.refl _).drew.trans hg)
          have hB11 := hB11.gr ((Gr.refl _).drew.trans hg)
          have hB12 := hB12.gr ((Gr.refl _).drew.trans hg)
          have hB13 := hB13.gr ((Gr.refl _).drew.trans hg)
          have hB14 := hB14.gr ((Gr.refl _).drew.trans hg)
          have hB15 := hB15.gr ((Gr.refl _).drew.trans hg)
          have f15 := hd 15 (by decide) _ rfl
          have f17 := hd 17 (by decide) _ rfl
          have f10 := hd 10 (by decide) _ rfl
          have e15 : σ 15 = _ := f15.1 hon
          have e17 : σ 17 = _ := f17.1 hon
          have e10 : σ 10 = _ := f10.1 trivial
          have hgd : σ 10 = .bool false := hon
          have hgb := (f10.1 trivial : σ 10 = _).symm.trans hgd
          simp only [Value.bool.injEq] at hgb
          try simp only [decide_eq_true_eq, decide_eq_false_iff_not, Bool.or_eq_true, Bool.and_eq_true, Bool.or_eq_false_iff, Bool.and_eq_false_iff, Bool.not_eq_true', Bool.not_eq_false', Int.not_lt, Int.not_le, ne_eq, Decidable.not_not] at hgb
          skip
          exact CallOK.sub (r := [(94, _), (96, _), (5, _), (6, _), (7, _), (8, _), (11, _), (12, _), (13, _), (14, _), (15, _)]) ⟨congrArg some e15, congrArg some e17, rfl, rfl, rfl, rfl, rfl, rfl, rfl, rfl, rfl, trivial⟩ (by
            exact CallOK.M (Φ := SΦ (lrec y p) (lrecE y p)) (enters_of rfl rfl hb26) (recin_ret hN.sat hy hv hP (by omega)))
          ), (by exact monoOwn (J := J27) (Φ := fun _ => SΦ (lrec y p) (lrecE y p))), (fun _ _ _ _ _ _ h => h), ?_⟩
      refine ⟨_, true, (fun σ ι w1 hg hd hon => by
          have hN := hN.ofGr ((Gr.refl _).drew.trans hg)
          have hB5 := hB5.gr ((Gr.refl _).drew.trans hg)
          have hB8 := hB8.gr ((Gr.refl _).drew.trans hg)
          have hB9 := hB9.gr ((Gr.refl _).drew.trans hg)
          have hB10 := hB10.gr ((Gr.refl _).drew.trans hg)
          have hB11 := hB11.gr ((Gr.refl _).drew.trans hg)
          have hB12 := hB12.gr ((Gr.refl _).drew.trans hg)
          have hB13 := hB13.gr ((Gr.refl _).drew.trans hg)
          have hB14 := hB14.gr ((Gr.refl _).drew.trans hg)
          have hB15 := hB15.gr ((Gr.refl _).drew.trans hg)
          have f14 := hd 14 (by decide) _ rfl
          have f18 := hd 18 (by decide) _ rfl
          have f10 := hd 10 (by decide) _ rfl
          have e14 := f14.1 hon
          obtain ⟨K14, hP14, A14, c14, B14, d14, e14, hK14⟩ := e14
          have e18 := f18.1 hon
          obtain ⟨K18, hP18, A18, c18, B18, d18, e18, hK18⟩ := e18
          have e10 : σ 10 = _ := f10.1 trivial
          have hgd : σ 10 = .bool false := hon
          have hgb := (f10.1 trivial : σ 10 = _).symm.trans hgd
          simp only [Value.bool.injEq] at hgb
          try simp only [decide_eq_true_eq, decide_eq_false_iff_not, Bool.or_eq_true, Bool.and_eq_true, Bool.or_eq_false_iff, Bool.and_eq_false_iff, Bool.not_eq_true', Bool.not_eq_false', Int.not_lt, Int.not_le, ne_eq, Decidable.not_not] at hgb
          skip
          exact CallOK.sub (r := [(93, _), (97, _), (5, _), (6, _), (7, _), (8, _), (11, _), (12, _), (13, _), (14, _), (15, _)]) ⟨congrArg some e14, congrArg some e18, rfl, rfl, rfl, rfl, rfl, rfl, rfl, rfl, rfl, trivial⟩ (by
            exact CallOK.V (enters_of rfl rfl hb22) (by have hz := lalike (e := lrecE y p) (e2 := lrecE y p) (joinI_sat hP14.sat hP18.sat) (hK14.up (joinI_left _ _)) (hK18.up (joinI_right hP14.sat hP18.sat)); exact hz))
          ), (fun _ _ _ _ _ _ h => h), (fun _ _ _ _ _ _ h => h), ?_⟩
      refine ⟨_, false, (fun σ ι w1 hg hd hon => by
          have f19 := hd 19 (by decide) _ rfl
          have f10 := hd 10 (by decide) _ rfl
          have e19 : σ 19 = _ := f19.1 hon
          have e10 : σ 10 = _ := f10.1 trivial
          have hgd : σ 10 = .bool false := hon
          have hgb := (f10.1 trivial : σ 10 = _).symm.trans hgd
          simp only [Value.bool.injEq] at hgb
          try simp only [decide_eq_true_eq, decide_eq_false_iff_not, Bool.or_eq_true, Bool.and_eq_true, Bool.or_eq_false_iff, Bool.and_eq_false_iff, Bool.not_eq_true', Bool.not_eq_false', Int.not_lt, Int.not_le, ne_eq, Decidable.not_not] at hgb
          exact OpOK.sub (r := [(98, _), (5, _), (6, _), (7, _), (8, _), (11, _), (12, _), (13, _), (14, _), (15, _)]) ⟨congrArg some e19, rfl, rfl, rfl, rfl, rfl, rfl, rfl, rfl, rfl, trivial⟩ (by
            exact OpOK.eq (r_not rfl))
          ), (fun _ _ _ _ _ _ h => h), (FreeR.no _), ?_⟩
      refine ⟨_, false, (fun σ ι w1 hg hd hon => by
          have f10 := hd 10 (by decide) _ rfl
          have f20 := hd 20 (by decide) _ rfl
          have e10 : σ 10 = _ := f10.1 trivial
          have ec : σ 10 = _ := f10.1 trivial
          exact OpOK.id (by refine OpOK.or (dc := 89) (dy := 99) (kc := σ 10) (ky := σ 20) ?_ ?_ ec (fun hb => f20.1 (by show σ 10 = _; rw [ec]; exact congrArg Value.bool hb)) <;> rfl)
          ), (fun _ _ _ _ _ _ h => h), (FreeR.no _), ?_⟩
      refine ⟨_, false, (fun σ ι w1 hg hd hon => by
          have f21 := hd 21 (by decide) _ rfl
          have e21 : σ 21 = _ := f21.1 trivial
          exact OpOK.sub (r := [(100, _), (5, _), (6, _), (7, _), (8, _), (11, _), (12, _), (13, _), (14, _), (15, _)]) ⟨congrArg some e21, rfl, rfl, rfl, rfl, rfl, rfl, rfl, rfl, rfl, trivial⟩ (by
            exact OpOK.eq (r_move rfl))
          ), (fun _ _ _ _ _ _ h => h), (FreeR.no _), ?_⟩
      refine ⟨_, false, (fun σ ι w1 hg hd hon => by
          have hN := hN.ofGr ((Gr.refl _).drew.trans hg)
          have hB5 := hB5.gr ((Gr.refl _).drew.trans hg)
          have hB8 := hB8.gr ((Gr.refl _).drew.trans hg)
          have hB9 := hB9.gr ((Gr.refl _).drew.trans hg)
          have hB10 := hB10.gr ((Gr.refl _).drew.trans hg)
          have hB11 := hB11.gr ((Gr.refl _).drew.trans hg)
          have hB12 := hB12.gr ((Gr.refl _).drew.trans hg)
          have hB13 := hB13.gr ((Gr.refl _).drew.trans hg)
          have hB14 := hB14.gr ((Gr.refl _).drew.trans hg)
          have hB15 := hB15.gr ((Gr.refl _).drew.trans hg)
          have f22 := hd 22 (by decide) _ rfl
          have e22 : σ 22 = _ := f22.1 trivial
          have hgd : σ 22 = .bool false := hon
          have hgb := (f22.1 trivial : σ 22 = _).symm.trans hgd
          simp only [Value.bool.injEq] at hgb
          try simp only [decide_eq_true_eq, decide_eq_false_iff_not, Bool.or_eq_true, Bool.and_eq_true, Bool.or_eq_false_iff, Bool.and_eq_false_iff, Bool.not_eq_true', Bool.not_eq_false', Int.not_lt, Int.not_le, ne_eq, Decidable.not_not] at hgb
          exact OpOK.sub (r := [(5, _), (6, _), (7, _), (8, _), (11, _), (12, _), (13, _), (14, _), (15, _)]) ⟨rfl, rfl, rfl, rfl, rfl, rfl, rfl, rfl, rfl, trivial⟩ (by
            exact OpOK.eq (r_loadA (cs := [_, _, _, _, _]) ag26 rfl hB8.agg))
          ), (fun _ _ _ _ _ _ h => h), (FreeR.no _), ?_⟩
      refine ⟨_, false, (fun σ ι w1 hg hd hon => by
          have hN := hN.ofGr ((Gr.refl _).drew.trans hg)
          have hB5 := hB5.gr ((Gr.refl _).drew.trans hg)
          have hB8 := hB8.gr ((Gr.refl _).drew.trans hg)
          have hB9 := hB9.gr ((Gr.refl _).drew.trans hg)
          have hB10 := hB10.gr ((Gr.refl _).drew.trans hg)
          have hB11 := hB11.gr ((Gr.refl _).drew.trans hg)
          have hB12 := hB12.gr ((Gr.refl _).drew.trans hg)
          have hB13 := hB13.gr ((Gr.refl _).drew.trans hg)
          have hB14 := hB14.gr ((Gr.refl _).drew.trans hg)
          have hB15 := hB15.gr ((Gr.refl _).drew.trans hg)
          have f22 := hd 22 (by decide) _ rfl
          have e22 : σ 22 = _ := f22.1 trivial
          have hgd : σ 22 = .bool false := hon
          have hgb := (f22.1 trivial : σ 22 = _).symm.trans hgd
          simp only [Value.bool.injEq] at hgb
          try simp only [decide_eq_true_eq, decide_eq_false_iff_not, Bool.or_eq_true, Bool.and_eq_true, Bool.or_eq_false_iff, Bool.and_eq_false_iff, Bool.not_eq_true', Bool.not_eq_false', Int.not_lt, Int.not_le, ne_eq, Decidable.not_not] at hgb
          exact OpOK.sub (r := [(5, _), (6, _), (7, _), (8, _), (11, _), (12, _), (13, _), (14, _), (15, _)]) ⟨rfl, rfl, rfl, rfl, rfl, rfl, rfl, rfl, rfl, trivial⟩ (by
            exact OpOK.eq (r_loadA (cs := [_, _, _, _]) ag28 rfl hB11.agg))
          ), (fun _ _ _ _ _ _ h => h), (FreeR.no _), ?_⟩
      refine ⟨_, true, (fun σ ι w1 hg hd hon => by
          have hN := hN.ofGr ((Gr.refl _).drew.trans hg)
          have hB5 := hB5.gr ((Gr.refl _).drew.trans hg)
          have hB8 := hB8.gr ((Gr.refl _).drew.trans hg)
          have hB9 := hB9.gr ((Gr.refl _).drew.trans hg)
          have hB10 := hB10.gr ((Gr.refl _).drew.trans hg)
          have hB11 := hB11.gr ((Gr.refl _).drew.trans hg)
          have hB12 := hB12.gr ((Gr.refl _).drew.trans hg)
          have hB13 := hB13.gr ((Gr.refl _).drew.trans hg)
          have hB14 := hB14.gr ((Gr.refl _).drew.trans hg)
          have hB15 := hB15.gr ((Gr.refl _).drew.trans hg)
          have f23 := hd 23 (by decide) _ rfl
          have f24 := hd 24 (by decide) _ rfl
          have f22 := hd 22 (by decide) _ rfl
          have e23 : σ 23 = _ := f23.1 hon
          have e24 : σ 24 = _ := f24.1 hon
          have e22 : σ 22 = _ := f22.1 trivial
          have hgd : σ 22 = .bool false := hon
          have hgb := (f22.1 trivial : σ 22 = _).symm.trans hgd
          simp only [Value.bool.injEq] at hgb
          try simp only [decide_eq_true_eq, decide_eq_false_iff_not, Bool.or_eq_true, Bool.and_eq_true, Bool.or_eq_false_iff, Bool.and_eq_false_iff, Bool.not_eq_true', Bool.not_eq_false', Int.not_lt, Int.not_le, ne_eq, Decidable.not_not] at hgb
          skip
          exact CallOK.sub (r := [(102, _), (103, _), (5, _), (6, _), (7, _), (8, _), (11, _), (12, _), (13, _), (14, _), (15, _)]) ⟨congrArg some e23, congrArg some e24, rfl, rfl, rfl, rfl, rfl, rfl, rfl, rfl, rfl, trivial⟩ (by
            exact CallOK.M (Φ := SΦ (lrec y q) (lrecE y q)) (enters_of rfl rfl hb25) (lreceived_ret hN.sat hy hv hq))
          ), (by exact monoOwn (J := J27) (Φ := fun _ => SΦ (lrec y q) (lrecE y q))), (fun _ _ _ _ _ _ h => h), ?_⟩
      refine ⟨_, false, (fun σ ι w1 hg hd hon => by
          have hN := hN.ofGr ((Gr.refl _).drew.trans hg)
          have hB5 := hB5.gr ((Gr.refl _).drew.trans hg)
          have hB8 := hB8.gr ((Gr.refl _).drew.trans hg)
          have hB9 := hB9.gr ((Gr.refl _).drew.trans hg)
          have hB10 := hB10.gr ((Gr.refl _).drew.trans hg)
          have hB11 := hB11.gr ((Gr.refl _).drew.trans hg)
          have hB12 := hB12.gr ((Gr.refl _).drew.trans hg)
          have hB13 := hB13.gr ((Gr.refl _).drew.trans hg)
          have hB14 := hB14.gr ((Gr.refl _).drew.trans hg)
          have hB15 := hB15.gr ((Gr.refl _).drew.trans hg)
          have f22 := hd 22 (by decide) _ rfl
          have e22 : σ 22 = _ := f22.1 trivial
          have hgd : σ 22 = .bool false := hon
          have hgb := (f22.1 trivial : σ 22 = _).symm.trans hgd
          simp only [Value.bool.injEq] at hgb
          try simp only [decide_eq_true_eq, decide_eq_false_iff_not, Bool.or_eq_true, Bool.and_eq_true, Bool.or_eq_false_iff, Bool.and_eq_false_iff, Bool.not_eq_true', Bool.not_eq_false', Int.not_lt, Int.not_le, ne_eq, Decidable.not_not] at hgb
          exact OpOK.sub (r := [(5, _), (6, _), (7, _), (8, _), (11, _), (12, _), (13, _), (14, _), (15, _)]) ⟨rfl, rfl, rfl, rfl, rfl, rfl, rfl, rfl, rfl, trivial⟩ (by
            exact OpOK.eq (r_loadA (cs := [_, _, _, _, _]) ag26 rfl hB8.agg))
          ), (fun _ _ _ _ _ _ h => h), (FreeR.no _), ?_⟩
      refine ⟨_, false, (fun σ ι w1 hg hd hon => by
          have hN := hN.ofGr ((Gr.refl _).drew.trans hg)
          have hB5 := hB5.gr ((Gr.refl _).drew.trans hg)
          have hB8 := hB8.gr ((Gr.refl _).drew.trans hg)
          have hB9 := hB9.gr ((Gr.refl _).drew.trans hg)
          have hB10 := hB10.gr ((Gr.refl _).drew.trans hg)
          have hB11 := hB11.gr ((Gr.refl _).drew.trans hg)
          have hB12 := hB12.gr ((Gr.refl _).drew.trans hg)
          have hB13 := hB13.gr ((Gr.refl _).drew.trans hg)
          have hB14 := hB14.gr ((Gr.refl _).drew.trans hg)
          have hB15 := hB15.gr ((Gr.refl _).drew.trans hg)
          have f22 := hd 22 (by decide) _ rfl
          have e22 : σ 22 = _ := f22.1 trivial
          have hgd : σ 22 = .bool false := hon
          have hgb := (f22.1 trivial : σ 22 = _).symm.trans hgd
          simp only [Value.bool.injEq] at hgb
          try simp only [decide_eq_true_eq, decide_eq_false_iff_not, Bool.or_eq_true, Bool.and_eq_true, Bool.or_eq_false_iff, Bool.and_eq_false_iff, Bool.not_eq_true', Bool.not_eq_false', Int.not_lt, Int.not_le, ne_eq, Decidable.not_not] at hgb
          exact OpOK.sub (r := [(5, _), (6, _), (7, _), (8, _), (11, _), (12, _), (13, _), (14, _), (15, _)]) ⟨rfl, rfl, rfl, rfl, rfl, rfl, rfl, rfl, rfl, trivial⟩ (by
            exact OpOK.eq (r_loadA (cs := [_, _, _, _]) ag28 rfl hB11.agg))
          ), (fun _ _ _ _ _ _ h => h), (FreeR.no _), ?_⟩
      refine ⟨_, true, (fun σ ι w1 hg hd hon => by
          have hN := hN.ofGr ((Gr.refl _).drew.trans hg)
          have hB5 := hB5.gr ((Gr.refl _).drew.trans hg)
          have hB8 := hB8.gr ((Gr.refl _).drew.trans hg)
          have hB9 := hB9.gr ((Gr.refl _).drew.trans hg)
          have hB10 := hB10.gr ((Gr.refl _).drew.trans hg)
          have hB11 := hB11.gr ((Gr.refl _).drew.trans hg)
          have hB12 := hB12.gr ((Gr.refl _).drew.trans hg)
          have hB13 := hB13.gr ((Gr.refl _).drew.trans hg)
          have hB14 := hB14.gr ((Gr.refl _).drew.trans hg)
          have hB15 := hB15.gr ((Gr.refl _).drew.trans hg)
          have f26 := hd 26 (by decide) _ rfl
          have f27 := hd 27 (by decide) _ rfl
          have f22 := hd 22 (by decide) _ rfl
          have e26 : σ 26 = _ := f26.1 hon
          have e27 : σ 27 = _ := f27.1 hon
          have e22 : σ 22 = _ := f22.1 trivial
          have hgd : σ 22 = .bool false := hon
          have hgb := (f22.1 trivial : σ 22 = _).symm.trans hgd
          simp only [Value.bool.injEq] at hgb
          try simp only [decide_eq_true_eq, decide_eq_false_iff_not, Bool.or_eq_true, Bool.and_eq_true, Bool.or_eq_false_iff, Bool.and_eq_false_iff, Bool.not_eq_true', Bool.not_eq_false', Int.not_lt, Int.not_le, ne_eq, Decidable.not_not] at hgb
          skip
          exact CallOK.sub (r := [(105, _), (106, _), (5, _), (6, _), (7, _), (8, _), (11, _), (12, _), (13, _), (14, _), (15, _)]) ⟨congrArg some e26, congrArg some e27, rfl, rfl, rfl, rfl, rfl, rfl, rfl, rfl, rfl, trivial⟩ (by
            exact CallOK.M (Φ := SΦ (lrec y q) (lrecE y q)) (enters_of rfl rfl hb26) (recin_ret hN.sat hy hv hq (by omega)))
          ), (by exact monoOwn (J := J27) (Φ := fun _ => SΦ (lrec y q) (lrecE y q))), (fun _ _ _ _ _ _ h => h), ?_⟩
      refine ⟨_, true, (fun σ ι w1 hg hd hon => by
          have hN := hN.ofGr ((Gr.refl _).drew.trans hg)
          have hB5 := hB5.gr ((Gr.refl _).drew.trans hg)
          have hB8 := hB8.gr ((Gr.refl _).drew.trans hg)
          have hB9 := hB9.gr ((Gr.refl _).drew.trans hg)
          have hB10 := hB10.gr ((Gr.refl _).drew.trans hg)
          have hB11 := hB11.gr ((Gr.refl _).drew.trans hg)
          have hB12 := hB12.gr ((Gr.refl _).drew.trans hg)
          have hB13 := hB13.gr ((Gr.refl _).drew.trans hg)
          have hB14 := hB14.gr ((Gr.refl _).drew.trans hg)
          have hB15 := hB15.gr ((Gr.refl _).drew.trans hg)
          have f25 := hd 25 (by decide) _ rfl
          have f28 := hd 28 (by decide) _ rfl
          have f22 := hd 22 (by decide) _ rfl
          have e25 := f25.1 hon
          obtain ⟨K25, hP25, A25, c25, B25, d25, e25, hK25⟩ := e25
          have e28 := f28.1 hon
          obtain ⟨K28, hP28, A28, c28, B28, d28, e28, hK28⟩ := e28
          have e22 : σ 22 = _ := f22.1 trivial
          have hgd : σ 22 = .bool false := hon
          have hgb := (f22.1 trivial : σ 22 = _).symm.trans hgd
          simp only [Value.bool.injEq] at hgb
          try simp only [decide_eq_true_eq, decide_eq_false_iff_not, Bool.or_eq_true, Bool.and_eq_true, Bool.or_eq_false_iff, Bool.and_eq_false_iff, Bool.not_eq_true', Bool.not_eq_false', Int.not_lt, Int.not_le, ne_eq, Decidable.not_not] at hgb
          skip
          exact CallOK.sub (r := [(104, _), (107, _), (5, _), (6, _), (7, _), (8, _), (11, _), (12, _), (13, _), (14, _), (15, _)]) ⟨congrArg some e25, congrArg some e28, rfl, rfl, rfl, rfl, rfl, rfl, rfl, rfl, rfl, trivial⟩ (by
            exact CallOK.V (enters_of rfl rfl hb22) (by have hz := lalike (e := lrecE y q) (e2 := lrecE y q) (joinI_sat hP25.sat hP28.sat) (hK25.up (joinI_left _ _)) (hK28.up (joinI_right hP25.sat hP28.sat)); exact hz))
          ), (fun _ _ _ _ _ _ h => h), (fun _ _ _ _ _ _ h => h), ?_⟩
      refine ⟨_, false, (fun σ ι w1 hg hd hon => by
          have f29 := hd 29 (by decide) _ rfl
          have f22 := hd 22 (by decide) _ rfl
          have e29 : σ 29 = _ := f29.1 hon
          have e22 : σ 22 = _ := f22.1 trivial
          have hgd : σ 22 = .bool false := hon
          have hgb := (f22.1 trivial : σ 22 = _).symm.trans hgd
          simp only [Value.bool.injEq] at hgb
          try simp only [decide_eq_true_eq, decide_eq_false_iff_not, Bool.or_eq_true, Bool.and_eq_true, Bool.or_eq_false_iff, Bool.and_eq_false_iff, Bool.not_eq_true', Bool.not_eq_false', Int.not_lt, Int.not_le, ne_eq, Decidable.not_not] at hgb
          exact OpOK.sub (r := [(108, _), (5, _), (6, _), (7, _), (8, _), (11, _), (12, _), (13, _), (14, _), (15, _)]) ⟨congrArg some e29, rfl, rfl, rfl, rfl, rfl, rfl, rfl, rfl, rfl, trivial⟩ (by
            exact OpOK.eq (r_not rfl))
          ), (fun _ _ _ _ _ _ h => h), (FreeR.no _), ?_⟩
      refine ⟨_, false, (fun σ ι w1 hg hd hon => by
          have f22 := hd 22 (by decide) _ rfl
          have f30 := hd 30 (by decide) _ rfl
          have e22 : σ 22 = _ := f22.1 trivial
          have ec : σ 22 = _ := f22.1 trivial
          exact OpOK.id (by refine OpOK.or (dc := 101) (dy := 109) (kc := σ 22) (ky := σ 30) ?_ ?_ ec (fun hb => f30.1 (by show σ 22 = _; rw [ec]; exact congrArg Value.bool hb)) <;> rfl)
          ), (fun _ _ _ _ _ _ h => h), (FreeR.no _), ?_⟩
      refine ⟨_, false, (fun σ ι w1 hg hd hon => by
          have f31 := hd 31 (by decide) _ rfl
          have e31 : σ 31 = _ := f31.1 trivial
          exact OpOK.sub (r := [(110, _), (5, _), (6, _), (7, _), (8, _), (11, _), (12, _), (13, _), (14, _), (15, _)]) ⟨congrArg some e31, rfl, rfl, rfl, rfl, rfl, rfl, rfl, rfl, rfl, trivial⟩ (by
            exact OpOK.eq (r_move rfl))
          ), (fun _ _ _ _ _ _ h => h), (FreeR.no _), ?_⟩
      refine ⟨_, false, (fun σ ι w1 hg hd hon => by
          have f32 := hd 32 (by decide) _ rfl
          have e32 : σ 32 = _ := f32.1 trivial
          have hgd : σ 32 = .bool false := hon
          have hgb := (f32.1 trivial : σ 32 = _).symm.trans hgd
          simp only [Value.bool.injEq] at hgb
          try simp only [decide_eq_true_eq, decide_eq_false_iff_not, Bool.or_eq_true, Bool.and_eq_true, Bool.or_eq_false_iff, Bool.and_eq_false_iff, Bool.not_eq_true', Bool.not_eq_false', Int.not_lt, Int.not_le, ne_eq, Decidable.not_not] at hgb
          exact OpOK.sub (r := [(5, _), (6, _), (7, _), (8, _), (11, _), (12, _), (13, _), (14, _), (15, _)]) ⟨rfl, rfl, rfl, rfl, rfl, rfl, rfl, rfl, rfl, trivial⟩ (by
            exact OpOK.eq (r_fld fld41_2 rfl))
          ), (fun _ _ _ _ _ _ h => h), (FreeR.no _), ?_⟩
      refine ⟨_, false, (fun σ ι w1 hg hd hon => by
          have hN := hN.ofGr ((Gr.refl _).drew.trans hg)
          have hB5 := hB5.gr ((Gr.refl _).drew.trans hg)
          have hB8 := hB8.gr ((Gr.refl _).drew.trans hg)
          have hB9 := hB9.gr ((Gr.refl _).drew.trans hg)
          have hB10 := hB10.gr ((Gr.refl _).drew.trans hg)
          have hB11 := hB11.gr ((Gr.refl _).drew.trans hg)
          have hB12 := hB12.gr ((Gr.refl _).drew.trans hg)
          have hB13 := hB13.gr ((Gr.refl _).drew.trans hg)
          have hB14 := hB14.gr ((Gr.refl _).drew.trans hg)
          have hB15 := hB15.gr ((Gr.refl _).drew.trans hg)
          have f33 := hd 33 (by decide) _ rfl
          have f32 := hd 32 (by decide) _ rfl
          have e33 : σ 33 = _ := f33.1 hon
          have e32 : σ 32 = _ := f32.1 trivial
          have hgd : σ 32 = .bool false := hon
          have hgb := (f32.1 trivial : σ 32 = _).symm.trans hgd
          simp only [Value.bool.injEq] at hgb
          try simp only [decide_eq_true_eq, decide_eq_false_iff_not, Bool.or_eq_true, Bool.and_eq_true, Bool.or_eq_false_iff, Bool.and_eq_false_iff, Bool.not_eq_true', Bool.not_eq_false', Int.not_lt, Int.not_le, ne_eq, Decidable.not_not] at hgb
          exact OpOK.sub (r := [(112, _), (5, _), (6, _), (7, _), (8, _), (11, _), (12, _), (13, _), (14, _), (15, _)]) ⟨congrArg some e33, rfl, rfl, rfl, rfl, rfl, rfl, rfl, rfl, rfl, trivial⟩ (by
            exact OpOK.eq (r_load sc39 rfl (hB12.cell rfl)))
          ), (fun _ _ _ _ _ _ h => h), (FreeR.no _), ?_⟩
      refine ⟨_, false, (fun σ ι w1 hg hd hon => by
          have f32 := hd 32 (by decide) _ rfl
          have e32 : σ 32 = _ := f32.1 trivial
          have hgd : σ 32 = .bool false := hon
          have hgb := (f32.1 trivial : σ 32 = _).symm.trans hgd
          simp only [Value.bool.injEq] at hgb
          try simp only [decide_eq_true_eq, decide_eq_false_iff_not, Bool.or_eq_true, Bool.and_eq_true, Bool.or_eq_false_iff, Bool.and_eq_false_iff, Bool.not_eq_true', Bool.not_eq_false', Int.not_lt, Int.not_le, ne_eq, Decidable.not_not] at hgb
          exact OpOK.sub (r := [(5, _), (6, _), (7, _), (8, _), (11, _), (12, _), (13, _), (14, _), (15, _)]) ⟨rfl, rfl, rfl, rfl, rfl, rfl, rfl, rfl, rfl, trivial⟩ (by
            exact OpOK.eq (r_fld fld41_2 rfl))
          ), (fun _ _ _ _ _ _ h => h), (FreeR.no _), ?_⟩
      refine ⟨_, false, (fun σ ι w1 hg hd hon => by
          have hN := hN.ofGr ((Gr.refl _).drew.trans hg)
          have hB5 := hB5.gr ((Gr.refl _).drew.trans hg)
          have hB8 := hB8.gr ((Gr.refl _).drew.trans hg)
          have hB9 := hB9.gr ((Gr.refl _).drew.trans hg)
          have hB10 := hB10.gr ((Gr.refl _).drew.trans hg)
          have hB11 := hB11.gr ((Gr.refl _).drew.trans hg)
          have hB12 := hB12.gr ((Gr.refl _).drew.trans hg)
          have hB13 := hB13.gr ((Gr.refl _).drew.trans hg)
          have hB14 := hB14.gr ((Gr.refl _).drew.trans hg)
          have hB15 := hB15.gr ((Gr.refl _).drew.trans hg)
          have f35 := hd 35 (by decide) _ rfl
          have f32 := hd 32 (by decide) _ rfl
          have e35 : σ 35 = _ := f35.1 hon
          have e32 : σ 32 = _ := f32.1 trivial
          have hgd : σ 32 = .bool false := hon
          have hgb := (f32.1 trivial : σ 32 = _).symm.trans hgd
          simp only [Value.bool.injEq] at hgb
          try simp only [decide_eq_true_eq, decide_eq_false_iff_not, Bool.or_eq_true, Bool.and_eq_true, Bool.or_eq_false_iff, Bool.and_eq_false_iff, Bool.not_eq_true', Bool.not_eq_false', Int.not_lt, Int.not_le, ne_eq, Decidable.not_not] at hgb
          exact OpOK.sub (r := [(114, _), (5, _), (6, _), (7, _), (8, _), (11, _), (12, _), (13, _), (14, _), (15, _)]) ⟨congrArg some e35, rfl, rfl, rfl, rfl, rfl, rfl, rfl, rfl, rfl, trivial⟩ (by
            exact OpOK.eq (r_load sc39 rfl (hB13.cell rfl)))
          ), (fun _ _ _ _ _ _ h => h), (FreeR.no _), ?_⟩
      refine ⟨_, false, (fun σ ι w1 hg hd hon => by
          have f34 := hd 34 (by decide) _ rfl
          have f36 := hd 36 (by decide) _ rfl
          have f32 := hd 32 (by decide) _ rfl
          have e34 : σ 34 = _ := f34.1 hon
          have e36 : σ 36 = _ := f36.1 hon
          have e32 : σ 32 = _ := f32.1 trivial
          have hgd : σ 32 = .bool false := hon
          have hgb := (f32.1 trivial : σ 32 = _).symm.trans hgd
          simp only [Value.bool.injEq] at hgb
          try simp only [decide_eq_true_eq, decide_eq_false_iff_not, Bool.or_eq_true, Bool.and_eq_true, Bool.or_eq_false_iff, Bool.and_eq_false_iff, Bool.not_eq_true', Bool.not_eq_false', Int.not_lt, Int.not_le, ne_eq, Decidable.not_not] at hgb
          exact OpOK.sub (r := [(113, _), (115, _), (5, _), (6, _), (7, _), (8, _), (11, _), (12, _), (13, _), (14, _), (15, _)]) ⟨congrArg some e34, congrArg some e36, rfl, rfl, rfl, rfl, rfl, rfl, rfl, rfl, rfl, trivial⟩ (by
            exact OpOK.eq (r_neq rfl rfl))
          ), (fun _ _ _ _ _ _ h => h), (FreeR.no _), ?_⟩
      refine ⟨_, false, (fun σ ι w1 hg hd hon => by
          have f32 := hd 32 (by decide) _ rfl
          have f37 := hd 37 (by decide) _ rfl
          have e32 : σ 32 = _ := f32.1 trivial
          have ec : σ 32 = _ := f32.1 trivial
          exact OpOK.id (by refine OpOK.or (dc := 111) (dy := 116) (kc := σ 32) (ky := σ 37) ?_ ?_ ec (fun hb => f37.1 (by show σ 32 = _; rw [ec]; exact congrArg Value.bool hb)) <;> rfl)
          ), (fun _ _ _ _ _ _ h => h), (FreeR.no _), ?_⟩
      refine ⟨_, false, (fun σ ι w1 hg hd hon => by
          have f38 := hd 38 (by decide) _ rfl
          have e38 : σ 38 = _ := f38.1 trivial
          exact OpOK.sub (r := [(117, _), (5, _), (6, _), (7, _), (8, _), (11, _), (12, _), (13, _), (14, _), (15, _)]) ⟨congrArg some e38, rfl, rfl, rfl, rfl, rfl, rfl, rfl, rfl, rfl, trivial⟩ (by
            exact OpOK.eq (r_move rfl))
          ), (fun _ _ _ _ _ _ h => h), (FreeR.no _), ?_⟩
      refine ⟨_, false, (fun σ ι w1 hg hd hon => by
          have f39 := hd 39 (by decide) _ rfl
          have e39 : σ 39 = _ := f39.1 trivial
          have hgd : σ 39 = .bool false := hon
          have hgb := (f39.1 trivial : σ 39 = _).symm.trans hgd
          simp only [Value.bool.injEq] at hgb
          try simp only [decide_eq_true_eq, decide_eq_false_iff_not, Bool.or_eq_true, Bool.and_eq_true, Bool.or_eq_false_iff, Bool.and_eq_false_iff, Bool.not_eq_true', Bool.not_eq_false', Int.not_lt, Int.not_le, ne_eq, Decidable.not_not] at hgb
          exact OpOK.sub (r := [(5, _), (6, _), (7, _), (8, _), (11, _), (12, _), (13, _), (14, _), (15, _)]) ⟨rfl, rfl, rfl, rfl, rfl, rfl, rfl, rfl, rfl, trivial⟩ (by
            exact OpOK.eq (r_fld fld41_1 rfl))
          ), (fun _ _ _ _ _ _ h => h), (FreeR.no _), ?_⟩
      refine ⟨_, false, (fun σ ι w1 hg hd hon => by
          have hN := hN.ofGr ((Gr.refl _).drew.trans hg)
          have hB5 := hB5.gr ((Gr.refl _).drew.trans hg)
          have hB8 := hB8.gr ((Gr.refl _).drew.trans hg)
          have hB9 := hB9.gr ((Gr.refl _).drew.trans hg)
          have hB10 := hB10.gr ((Gr.refl _).drew.trans hg)
          have hB11 := hB11.gr ((Gr.refl _).drew.trans hg)
          have hB12 := hB12.gr ((Gr.refl _).drew.trans hg)
          have hB13 := hB13.gr ((Gr.refl _).drew.trans hg)
          have hB14 := hB14.gr ((Gr.refl _).drew.trans hg)
          have hB15 := hB15.gr ((Gr.refl _).drew.trans hg)
          have f40 := hd 40 (by decide) _ rfl
          have f39 := hd 39 (by decide) _ rfl
          have e40 : σ 40 = _ := f40.1 hon
          have e39 : σ 39 = _ := f39.1 trivial
          have hgd : σ 39 = .bool false := hon
          have hgb := (f39.1 trivial : σ 39 = _).symm.trans hgd
          simp only [Value.bool.injEq] at hgb
          try simp only [decide_eq_true_eq, decide_eq_false_iff_not, Bool.or_eq_true, Bool.and_eq_true, Bool.or_eq_false_iff, Bool.and_eq_false_iff, Bool.not_eq_true', Bool.not_eq_false', Int.not_lt, Int.not_le, ne_eq, Decidable.not_not] at hgb
          exact OpOK.sub (r := [(119, _), (5, _), (6, _), (7, _), (8, _), (11, _), (12, _), (13, _), (14, _), (15, _)]) ⟨congrArg some e40, rfl, rfl, rfl, rfl, rfl, rfl, rfl, rfl, rfl, trivial⟩ (by
            exact OpOK.eq (Box.loadO ag26 rfl hB12 (by simp)))
          ), (fun _ _ _ _ _ _ h => h), (FreeR.no _), ?_⟩
      refine ⟨_, false, (fun σ ι w1 hg hd hon => by
          have f39 := hd 39 (by decide) _ rfl
          have e39 : σ 39 = _ := f39.1 trivial
          have hgd : σ 39 = .bool false := hon
          have hgb := (f39.1 trivial : σ 39 = _).symm.trans hgd
          simp only [Value.bool.injEq] at hgb
          try simp only [decide_eq_true_eq, decide_eq_false_iff_not, Bool.or_eq_true, Bool.and_eq_true, Bool.or_eq_false_iff, Bool.and_eq_false_iff, Bool.not_eq_true', Bool.not_eq_false', Int.not_lt, Int.not_le, ne_eq, Decidable.not_not] at hgb
          exact OpOK.sub (r := [(5, _), (6, _), (7, _), (8, _), (11, _), (12, _), (13, _), (14, _), (15, _)]) ⟨rfl, rfl, rfl, rfl, rfl, rfl, rfl, rfl, rfl, trivial⟩ (by
            exact OpOK.eq (r_fld fld41_1 rfl))
          ), (fun _ _ _ _ _ _ h => h), (FreeR.no _), ?_⟩
      refine ⟨_, false, (fun σ ι w1 hg hd hon => by
          have hN := hN.ofGr ((Gr.refl _).drew.trans hg)
          have hB5 := hB5.gr ((Gr.refl _).drew.trans hg)
          have hB8 := hB8.gr ((Gr.refl _).drew.trans hg)
          have hB9 := hB9.gr ((Gr.refl _).drew.trans hg)
          have hB10 := hB10.gr ((Gr.refl _).drew.trans hg)
          have hB11 := hB11.gr ((Gr.refl _).drew.trans hg)
          have hB12 := hB12.gr ((Gr.refl _).drew.trans hg)
          have hB13 := hB13.gr ((Gr.refl _).drew.trans hg)
          have hB14 := hB14.gr ((Gr.refl _).drew.trans hg)
          have hB15 := hB15.gr ((Gr.refl _).drew.trans hg)
          have f42 := hd 42 (by decide) _ rfl
          have f39 := hd 39 (by decide) _ rfl
          have e42 : σ 42 = _ := f42.1 hon
          have e39 : σ 39 = _ := f39.1 trivial
          have hgd : σ 39 = .bool false := hon
          have hgb := (f39.1 trivial : σ 39 = _).symm.trans hgd
          simp only [Value.bool.injEq] at hgb
          try simp only [decide_eq_true_eq, decide_eq_false_iff_not, Bool.or_eq_true, Bool.and_eq_true, Bool.or_eq_false_iff, Bool.and_eq_false_iff, Bool.not_eq_true', Bool.not_eq_false', Int.not_lt, Int.not_le, ne_eq, Decidable.not_not] at hgb
          exact OpOK.sub (r := [(121, _), (5, _), (6, _), (7, _), (8, _), (11, _), (12, _), (13, _), (14, _), (15, _)]) ⟨congrArg some e42, rfl, rfl, rfl, rfl, rfl, rfl, rfl, rfl, rfl, trivial⟩ (by
            exact OpOK.eq (Box.loadO ag26 rfl hB13 (by simp)))
          ), (fun _ _ _ _ _ _ h => h), (FreeR.no _), ?_⟩
      refine ⟨_, true, (fun σ ι w1 hg hd hon => by
          have hN := hN.ofGr ((Gr.refl _).drew.trans hg)
          have hB5 := hB5.gr ((Gr.refl _).drew.trans hg)
          have hB8 := hB8.gr ((Gr.refl _).drew.trans hg)
          have hB9 := hB9.gr ((Gr.refl _).drew.trans hg)
          have hB10 := hB10.gr ((Gr.refl _).drew.trans hg)
          have hB11 := hB11.gr ((Gr.refl _).drew.trans hg)
          have hB12 := hB12.gr ((Gr.refl _).drew.trans hg)
          have hB13 := hB13.gr ((Gr.refl _).drew.trans hg)
          have hB14 := hB14.gr ((Gr.refl _).drew.trans hg)
          have hB15 := hB15.gr ((Gr.refl _).drew.trans hg)
          have f41 := hd 41 (by decide) _ rfl
          have f43 := hd 43 (by decide) _ rfl
          have f39 := hd 39 (by decide) _ rfl
          have e41 : σ 41 = _ := f41.1 hon
          have e43 : σ 43 = _ := f43.1 hon
          have e39 : σ 39 = _ := f39.1 trivial
          have hgd : σ 39 = .bool false := hon
          have hgb := (f39.1 trivial : σ 39 = _).symm.trans hgd
          simp only [Value.bool.injEq] at hgb
          try simp only [decide_eq_true_eq, decide_eq_false_iff_not, Bool.or_eq_true, Bool.and_eq_true, Bool.or_eq_false_iff, Bool.and_eq_false_iff, Bool.not_eq_true', Bool.not_eq_false', Int.not_lt, Int.not_le, ne_eq, Decidable.not_not] at hgb
          skip
          exact CallOK.sub (r := [(120, _), (122, _), (5, _), (6, _), (7, _), (8, _), (11, _), (12, _), (13, _), (14, _), (15, _)]) ⟨congrArg some e41, congrArg some e43, rfl, rfl, rfl, rfl, rfl, rfl, rfl, rfl, rfl, trivial⟩ (by
            exact CallOK.V (enters_of rfl rfl hb14) (by have hz := rsamel hN.sat hT5 hT7; exact hz))
          ), (fun _ _ _ _ _ _ h => h), (fun _ _ _ _ _ _ h => h), ?_⟩
      refine ⟨_, false, (fun σ ι w1 hg hd hon => by
          have f44 := hd 44 (by decide) _ rfl
          have f39 := hd 39 (by decide) _ rfl
          have e44 : σ 44 = _ := f44.1 hon
          have e39 : σ 39 = _ := f39.1 trivial
          have hgd : σ 39 = .bool false := hon
          have hgb := (f39.1 trivial : σ 39 = _).symm.trans hgd
          simp only [Value.bool.injEq] at hgb
          try simp only [decide_eq_true_eq, decide_eq_false_iff_not, Bool.or_eq_true, Bool.and_eq_true, Bool.or_eq_false_iff, Bool.and_eq_false_iff, Bool.not_eq_true', Bool.not_eq_false', Int.not_lt, Int.not_le, ne_eq, Decidable.not_not] at hgb
          exact OpOK.sub (r := [(123, _), (5, _), (6, _), (7, _), (8, _), (11, _), (12, _), (13, _), (14, _), (15, _)]) ⟨congrArg some e44, rfl, rfl, rfl, rfl, rfl, rfl, rfl, rfl, rfl, trivial⟩ (by
            exact OpOK.eq (r_not rfl))
          ), (fun _ _ _ _ _ _ h => h), (FreeR.no _), ?_⟩
      refine ⟨_, false, (fun σ ι w1 hg hd hon => by
          have f39 := hd 39 (by decide) _ rfl
          have f45 := hd 45 (by decide) _ rfl
          have e39 : σ 39 = _ := f39.1 trivial
          have ec : σ 39 = _ := f39.1 trivial
          exact OpOK.id (by refine OpOK.or (dc := 118) (dy := 124) (kc := σ 39) (ky := σ 45) ?_ ?_ ec (fun hb => f45.1 (by show σ 39 = _; rw [ec]; exact congrArg Value.bool hb)) <;> rfl)
          ), (fun _ _ _ _ _ _ h => h), (FreeR.no _), ?_⟩
      refine ⟨_, false, (fun σ ι w1 hg hd hon => by
          have f46 := hd 46 (by decide) _ rfl
          have e46 : σ 46 = _ := f46.1 trivial
          exact OpOK.sub (r := [(125, _), (5, _), (6, _), (7, _), (8, _), (11, _), (12, _), (13, _), (14, _), (15, _)]) ⟨congrArg some e46, rfl, rfl, rfl, rfl, rfl, rfl, rfl, rfl, rfl, trivial⟩ (by
            exact OpOK.eq (r_move rfl))
          ), (fun _ _ _ _ _ _ h => h), (FreeR.no _), ?_⟩
      refine ⟨_, false, (fun σ ι w1 hg hd hon => by
          have f47 := hd 47 (by decide) _ rfl
          have e47 : σ 47 = _ := f47.1 trivial
          have hgd : σ 47 = .bool false := hon
          have hgb := (f47.1 trivial : σ 47 = _).symm.trans hgd
          simp only [Value.bool.injEq] at hgb
          try simp only [decide_eq_true_eq, decide_eq_false_iff_not, Bool.or_eq_true, Bool.and_eq_true, Bool.or_eq_false_iff, Bool.and_eq_false_iff, Bool.not_eq_true', Bool.not_eq_false', Int.not_lt, Int.not_le, ne_eq, Decidable.not_not] at hgb
          exact OpOK.sub (r := [(5, _), (6, _), (7, _), (8, _), (11, _), (12, _), (13, _), (14, _), (15, _)]) ⟨rfl, rfl, rfl, rfl, rfl, rfl, rfl, rfl, rfl, trivial⟩ (by
            exact OpOK.eq (r_fld fld41_0 rfl))
          ), (fun _ _ _ _ _ _ h => h), (FreeR.no _), ?_⟩
      refine ⟨_, false, (fun σ ι w1 hg hd hon => by
          have hN := hN.ofGr ((Gr.refl _).drew.trans hg)
          have hB5 := hB5.gr ((Gr.refl _).drew.trans hg)
          have hB8 := hB8.gr ((Gr.refl _).drew.trans hg)
          have hB9 := hB9.gr ((Gr.refl _).drew.trans hg)
          have hB10 := hB10.gr ((Gr.refl _).drew.trans hg)
          have hB11 := hB11.gr ((Gr.refl _).drew.trans hg)
          have hB12 := hB12.gr ((Gr.refl _).drew.trans hg)
          have hB13 := hB13.gr ((Gr.refl _).drew.trans hg)
          have hB14 := hB14.gr ((Gr.refl _).drew.trans hg)
          have hB15 := hB15.gr ((Gr.refl _).drew.trans hg)
          have f48 := hd 48 (by decide) _ rfl
          have f47 := hd 47 (by decide) _ rfl
          have e48 : σ 48 = _ := f48.1 hon
          have e47 : σ 47 = _ := f47.1 trivial
          have hgd : σ 47 = .bool false := hon
          have hgb := (f47.1 trivial : σ 47 = _).symm.trans hgd
          simp only [Value.bool.injEq] at hgb
          try simp only [decide_eq_true_eq, decide_eq_false_iff_not, Bool.or_eq_true, Bool.and_eq_true, Bool.or_eq_false_iff, Bool.and_eq_false_iff, Bool.not_eq_true', Bool.not_eq_false', Int.not_lt, Int.not_le, ne_eq, Decidable.not_not] at hgb
          exact OpOK.sub (r := [(127, _), (5, _), (6, _), (7, _), (8, _), (11, _), (12, _), (13, _), (14, _), (15, _)]) ⟨congrArg some e48, rfl, rfl, rfl, rfl, rfl, rfl, rfl, rfl, rfl, trivial⟩ (by
            exact OpOK.eq (r_load sc23 rfl (hB12.cell rfl)))
          ), (fun _ _ _ _ _ _ h => h), (FreeR.no _), ?_⟩
      refine ⟨_, false, (fun σ ι w1 hg hd hon => by
          have f47 := hd 47 (by decide) _ rfl
          have e47 : σ 47 = _ := f47.1 trivial
          have hgd : σ 47 = .bool false := hon
          have hgb := (f47.1 trivial : σ 47 = _).symm.trans hgd
          simp only [Value.bool.injEq] at hgb
          try simp only [decide_eq_true_eq, decide_eq_false_iff_not, Bool.or_eq_true, Bool.and_eq_true, Bool.or_eq_false_iff, Bool.and_eq_false_iff, Bool.not_eq_true', Bool.not_eq_false', Int.not_lt, Int.not_le, ne_eq, Decidable.not_not] at hgb
          exact OpOK.sub (r := [(5, _), (6, _), (7, _), (8, _), (11, _), (12, _), (13, _), (14, _), (15, _)]) ⟨rfl, rfl, rfl, rfl, rfl, rfl, rfl, rfl, rfl, trivial⟩ (by
            exact OpOK.eq (r_fld fld41_0 rfl))
          ), (fun _ _ _ _ _ _ h => h), (FreeR.no _), ?_⟩
      refine ⟨_, false, (fun σ ι w1 hg hd hon => by
          have hN := hN.ofGr ((Gr.refl _).drew.trans hg)
          have hB5 := hB5.gr ((Gr.refl _).drew.trans hg)
          have hB8 := hB8.gr ((Gr.refl _).drew.trans hg)
          have hB9 := hB9.gr ((Gr.refl _).drew.trans hg)
          have hB10 := hB10.gr ((Gr.refl _).drew.trans hg)
          have hB11 := hB11.gr ((Gr.refl _).drew.trans hg)
          have hB12 := hB12.gr ((Gr.refl _).drew.trans hg)
          have hB13 := hB13.gr ((Gr.refl _).drew.trans hg)
          have hB14 := hB14.gr ((Gr.refl _).drew.trans hg)
          have hB15 := hB15.gr ((Gr.refl _).drew.trans hg)
          have f50 := hd 50 (by decide) _ rfl
          have f47 := hd 47 (by decide) _ rfl
          have e50 : σ 50 = _ := f50.1 hon
          have e47 : σ 47 = _ := f47.1 trivial
          have hgd : σ 47 = .bool false := hon
          have hgb := (f47.1 trivial : σ 47 = _).symm.trans hgd
          simp only [Value.bool.injEq] at hgb
          try simp only [decide_eq_true_eq, decide_eq_false_iff_not, Bool.or_eq_true, Bool.and_eq_true, Bool.or_eq_false_iff, Bool.and_eq_false_iff, Bool.not_eq_true', Bool.not_eq_false', Int.not_lt, Int.not_le, ne_eq, Decidable.not_not] at hgb
          exact OpOK.sub (r := [(129, _), (5, _), (6, _), (7, _), (8, _), (11, _), (12, _), (13, _), (14, _), (15, _)]) ⟨congrArg some e50, rfl, rfl, rfl, rfl, rfl, rfl, rfl, rfl, rfl, trivial⟩ (by
            exact OpOK.eq (r_load sc23 rfl (hB13.cell rfl)))
          ), (fun _ _ _ _ _ _ h => h), (FreeR.no _), ?_⟩
      refine ⟨_, true, (fun σ ι w1 hg hd hon => by
          have hN := hN.ofGr ((Gr.refl _).drew.trans hg)
          have hB5 := hB5.gr ((Gr.refl _).drew.trans hg)
          have hB8 := hB8.gr ((Gr.refl _).drew.trans hg)
          have hB9 := hB9.gr ((Gr.refl _).drew.trans hg)
          have hB10 := hB10.gr ((Gr.refl _).drew.trans hg)
          have hB11 := hB11.gr ((Gr.refl _).drew.trans hg)
          have hB12 := hB12.gr ((Gr.refl _).drew.trans hg)
          have hB13 := hB13.gr ((Gr.refl _).drew.trans hg)
          have hB14 := hB14.gr ((Gr.refl _).drew.trans hg)
          have hB15 := hB15.gr ((Gr.refl _).drew.trans hg)
          have f49 := hd 49 (by decide) _ rfl
          have f51 := hd 51 (by decide) _ rfl
          have f47 := hd 47 (by decide) _ rfl
          have e49 : σ 49 = _ := f49.1 hon
          have e51 : σ 51 = _ := f51.1 hon
          have e47 : σ 47 = _ := f47.1 trivial
          have hgd : σ 47 = .bool false := hon
          have hgb := (f47.1 trivial : σ 47 = _).symm.trans hgd
          simp only [Value.bool.injEq] at hgb
          try simp only [decide_eq_true_eq, decide_eq_false_iff_not, Bool.or_eq_true, Bool.and_eq_true, Bool.or_eq_false_iff, Bool.and_eq_false_iff, Bool.not_eq_true', Bool.not_eq_false', Int.not_lt, Int.not_le, ne_eq, Decidable.not_not] at hgb
          skip
          exact CallOK.sub (r := [(128, _), (130, _), (5, _), (6, _), (7, _), (8, _), (11, _), (12, _), (13, _), (14, _), (15, _)]) ⟨congrArg some e49, congrArg some e51, rfl, rfl, rfl, rfl, rfl, rfl, rfl, rfl, rfl, trivial⟩ (by
            exact CallOK.V (enters_of rfl rfl hb27) (by have hz := rsame8 (c := d5) (c2 := d7) hN.sat hD5 hD7; exact hz))
          ), (fun _ _ _ _ _ _ h => h), (fun _ _ _ _ _ _ h => h), ?_⟩
      refine ⟨_, false, (fun σ ι w1 hg hd hon => by
          have f52 := hd 52 (by decide) _ rfl
          have f47 := hd 47 (by decide) _ rfl
          have e52 : σ 52 = _ := f52.1 hon
          have e47 : σ 47 = _ := f47.1 trivial
          have hgd : σ 47 = .bool false := hon
          have hgb := (f47.1 trivial : σ 47 = _).symm.trans hgd
          simp only [Value.bool.injEq] at hgb
          try simp only [decide_eq_true_eq, decide_eq_false_iff_not, Bool.or_eq_true, Bool.and_eq_true, Bool.or_eq_false_iff, Bool.and_eq_false_iff, Bool.not_eq_true', Bool.not_eq_false', Int.not_lt, Int.not_le, ne_eq, Decidable.not_not] at hgb
          exact OpOK.sub (r := [(131, _), (5, _), (6, _), (7, _), (8, _), (11, _), (12, _), (13, _), (14, _), (15, _)]) ⟨congrArg some e52, rfl, rfl, rfl, rfl, rfl, rfl, rfl, rfl, rfl, trivial⟩ (by
            exact OpOK.eq (r_not rfl))
          ), (fun _ _ _ _ _ _ h => h), (FreeR.no _), ?_⟩
      refine ⟨_, false, (fun σ ι w1 hg hd hon => by
          have f47 := hd 47 (by decide) _ rfl
          have f53 := hd 53 (by decide) _ rfl
          have e47 : σ 47 = _ := f47.1 trivial
          have ec : σ 47 = _ := f47.1 trivial
          exact OpOK.id (by refine OpOK.or (dc := 126) (dy := 132) (kc := σ 47) (ky := σ 53) ?_ ?_ ec (fun hb => f53.1 (by show σ 47 = _; rw [ec]; exact congrArg Value.bool hb)) <;> rfl)
          ), (fun _ _ _ _ _ _ h => h), (FreeR.no _), ?_⟩
      intro σ ι a48 w31 hgw31 H59 hd hap
      skip
      have hN0 := hN
      have hN := hN.ofGr ((Gr.refl _).drew.trans hgw31)
      replace hB5 := hB5.gr ((Gr.refl _).drew.trans hgw31)
      replace hB8 := hB8.gr ((Gr.refl _).drew.trans hgw31)
      replace hB9 := hB9.gr ((Gr.refl _).drew.trans hgw31)
      replace hB10 := hB10.gr ((Gr.refl _).drew.trans hgw31)
      replace hB11 := hB11.gr ((Gr.refl _).drew.trans hgw31)
      replace hB12 := hB12.gr ((Gr.refl _).drew.trans hgw31)
      replace hB13 := hB13.gr ((Gr.refl _).drew.trans hgw31)
      replace hB14 := hB14.gr ((Gr.refl _).drew.trans hgw31)
      replace hB15 := hB15.gr ((Gr.refl _).drew.trans hgw31)
      have e54 : σ 54 = _ := (hd 54 (by decide) _ rfl).1 trivial
      replace H59 := H59.sub (r := [(133, _), (5, _), (6, _), (7, _), (8, _), (11, _), (12, _), (13, _), (14, _), (15, _)]) ⟨congrArg some e54, rfl, rfl, rfl, rfl, rfl, rfl, rfl, rfl, rfl, trivial⟩
      clear hd
      clear hap
      refine wl_end ?_
      refine th_n ?_
      first | refine w_if H59 rfl (fun hc133 => ?_) (fun hc133 => ?_) | refine w_cond H59 rfl (fun hc133 => ?_) (fun hc133 => ?_)
      ·
        exact absurd hc133 (by simp)
      ·
        try simp only [decide_eq_true_eq, decide_eq_false_iff_not, Bool.or_eq_true, Bool.and_eq_true, Bool.or_eq_false_iff, Bool.and_eq_false_iff, Bool.not_eq_true', Bool.not_eq_false', Int.not_lt, Int.not_le, ne_eq, Decidable.not_not] at hc133
        refine wpIn_skip ?_
        refine th_n ?_
        refine wpIn_seq ?_
        have hS0 := hN.sat
        have hNsz16 := hN.gr.size
        refine w_drawE (m := 22) (l0 := [(6, _), (7, _), (8, _), (14, _), (15, _)]) hfol H59 ⟨rfl, rfl, rfl, rfl, rfl, trivial⟩ (by kernel_rfl) ?_
        refine ⟨_, false, (fun σ ι w1 hg hd hon => by
            exact OpOK.sub (r := [(6, _), (7, _), (8, _), (14, _), (15, _)]) ⟨rfl, rfl, rfl, rfl, rfl, trivial⟩ (by
              exact OpOK.eq (r_fld fld44_1 rfl))
            ), (fun _ _ _ _ _ _ h => h), (FreeR.no _), ?_⟩
        refine ⟨_, false, (fun σ ι w1 hg hd hon => by
            have hN := hN.ofGr ((Gr.refl _).drew.trans hg)
            have hB5 := hB5.gr ((Gr.refl _).drew.trans hg)
            have hB8 := hB8.gr ((Gr.refl _).drew.trans hg)
            have hB9 := hB9.gr ((Gr.refl _).drew.trans hg)
            have hB10 := hB10.gr ((Gr.refl _).drew.trans hg)
            have hB11 := hB11.gr ((Gr.refl _).drew.trans hg)
            have hB12 := hB12.gr ((Gr.refl _).drew.trans hg)
            have hB13 := hB13.gr ((Gr.refl _).drew.trans hg)
            have hB14 := hB14.gr ((Gr.refl _).drew.trans hg)
            have hB15 := hB15.gr ((Gr.refl _).drew.trans hg)
            have f0 := hd 0 (by decide) _ rfl
            have e0 : σ 0 = _ := f0.1 trivial
            exact OpOK.sub (r := [(134, _), (6, _), (7, _), (8, _), (14, _), (15, _)]) ⟨congrArg some e0, rfl, rfl, rfl, rfl, rfl, trivial⟩ (by
              exact OpOK.eq (r_load sc39 rfl (hB14.cell rfl)))
            ), (fun _ _ _ _ _ _ h => h), (FreeR.no _), ?_⟩
        refine ⟨_, false, (fun σ ι w1 hg hd hon => by
            exact OpOK.sub (r := [(6, _), (7, _), (8, _), (14, _), (15, _)]) ⟨rfl, rfl, rfl, rfl, rfl, trivial⟩ (by
              exact OpOK.eq (r_fld fld44_1 rfl))
            ), (fun _ _ _ _ _ _ h => h), (FreeR.no _), ?_⟩
        refine ⟨_, false, (fun σ ι w1 hg hd hon => by
            have hN := hN.ofGr ((Gr.refl _).drew.trans hg)
            have hB5 := hB5.gr ((Gr.refl _).drew.trans hg)
            have hB8 := hB8.gr ((Gr.refl _).drew.trans hg)
            have hB9 := hB9.gr ((Gr.refl _).drew.trans hg)
            have hB10 := hB10.gr ((Gr.refl _).drew.trans hg)
            have hB11 := hB11.gr ((Gr.refl _).drew.trans hg)
            have hB12 := hB12.gr ((Gr.refl _).drew.trans hg)
            have hB13 := hB13.gr ((Gr.refl _).drew.trans hg)
            have hB14 := hB14.gr ((Gr.refl _).drew.trans hg)
            have hB15 := hB15.gr ((Gr.refl _).drew.trans hg)
            have f2 := hd 2 (by decide) _ rfl
            have e2 : σ 2 = _ := f2.1 trivial
            exact OpOK.sub (r := [(136, _), (6, _), (7, _), (8, _), (14, _), (15, _)]) ⟨congrArg some e2, rfl, rfl, rfl, rfl, rfl, trivial⟩ (by
              exact OpOK.eq (r_load sc39 rfl (hB15.cell rfl)))
            ), (fun _ _ _ _ _ _ h => h), (FreeR.no _), ?_⟩
        refine ⟨_, false, (fun σ ι w1 hg hd hon => by
            have f1 := hd 1 (by decide) _ rfl
            have f3 := hd 3 (by decide) _ rfl
            have e1 : σ 1 = _ := f1.1 trivial
            have e3 : σ 3 = _ := f3.1 trivial
            exact OpOK.sub (r := [(135, _), (137, _), (6, _), (7, _), (8, _), (14, _), (15, _)]) ⟨congrArg some e1, congrArg some e3, rfl, rfl, rfl, rfl, rfl, trivial⟩ (by
              exact OpOK.eq (r_eql rfl rfl))
            ), (fun _ _ _ _ _ _ h => h), (FreeR.no _), ?_⟩
        refine ⟨_, false, (fun σ ι w1 hg hd hon => by
            have f4 := hd 4 (by decide) _ rfl
            have e4 : σ 4 = _ := f4.1 trivial
            exact OpOK.sub (r := [(138, _), (6, _), (7, _), (8, _), (14, _), (15, _)]) ⟨congrArg some e4, rfl, rfl, rfl, rfl, rfl, trivial⟩ (by
              exact OpOK.eq (r_move rfl))
            ), (fun _ _ _ _ _ _ h => h), (FreeR.no _), ?_⟩
        refine ⟨_, false, (fun σ ι w1 hg hd hon => by
            have f5 := hd 5 (by decide) _ rfl
            have e5 : σ 5 = _ := f5.1 trivial
            have hgd : σ 5 = .bool true := hon
            have hgb := (f5.1 trivial : σ 5 = _).symm.trans hgd
            simp only [Value.bool.injEq] at hgb
            try simp only [decide_eq_true_eq, decide_eq_false_iff_not, Bool.or_eq_true, Bool.and_eq_true, Bool.or_eq_false_iff, Bool.and_eq_false_iff, Bool.not_eq_true', Bool.not_eq_false', Int.not_lt, Int.not_le, ne_eq, Decidable.not_not] at hgb
            exact OpOK.sub (r := [(6, _), (7, _), (8, _), (14, _), (15, _)]) ⟨rfl, rfl, rfl, rfl, rfl, trivial⟩ (by
              exact OpOK.eq (r_fld fld44_0 rfl))
            ), (fun _ _ _ _ _ _ h => h), (FreeR.no _), ?_⟩
        refine ⟨_, false, (fun σ ι w1 hg hd hon => by
            have hN := hN.ofGr ((Gr.refl _).drew.trans hg)
            have hB5 := hB5.gr ((Gr.refl _).drew.trans hg)
            have hB8 := hB8.gr ((Gr.refl _).drew.trans hg)
            have hB9 := hB9.gr ((Gr.refl _).drew.trans hg)
            have hB10 := hB10.gr ((Gr.refl _).drew.trans hg)
            have hB11 := hB11.gr ((Gr.refl _).drew.trans hg)
            have hB12 := hB12.gr ((Gr.refl _).drew.trans hg)
            have hB13 := hB13.gr ((Gr.refl _).drew.trans hg)
            have hB14 := hB14.gr ((Gr.refl _).drew.trans hg)
            have hB15 := hB15.gr ((Gr.refl _).drew.trans hg)
            have f6 := hd 6 (by decide) _ rfl
            have f5 := hd 5 (by decide) _ rfl
            have e6 : σ 6 = _ := f6.1 hon
            have e5 : σ 5 = _ := f5.1 trivial
            have hgd : σ 5 = .bool true := hon
            have hgb := (f5.1 trivial : σ 5 = _).symm.trans hgd
            simp only [Value.bool.injEq] at hgb
            try simp only [decide_eq_true_eq, decide_eq_false_iff_not, Bool.or_eq_true, Bool.and_eq_true, Bool.or_eq_false_iff, Bool.and_eq_false_iff, Bool.not_eq_true', Bool.not_eq_false', Int.not_lt, Int.not_le, ne_eq, Decidable.not_not] at hgb
            exact OpOK.sub (r := [(140, _), (6, _), (7, _), (8, _), (14, _), (15, _)]) ⟨congrArg some e6, rfl, rfl, rfl, rfl, rfl, trivial⟩ (by
              exact OpOK.eq (Box.loadO ag28 rfl hB14 (by simp)))
            ), (fun _ _ _ _ _ _ h => h), (FreeR.no _), ?_⟩
        refine ⟨_, false, (fun σ ι w1 hg hd hon => by
            have f5 := hd 5 (by decide) _ rfl
            have e5 : σ 5 = _ := f5.1 trivial
            have hgd : σ 5 = .bool true := hon
            have hgb := (f5.1 trivial : σ 5 = _).symm.trans hgd
            simp only [Value.bool.injEq] at hgb
            try simp only [decide_eq_true_eq, decide_eq_false_iff_not, Bool.or_eq_true, Bool.and_eq_true, Bool.or_eq_false_iff, Bool.and_eq_false_iff, Bool.not_eq_true', Bool.not_eq_false', Int.not_lt, Int.not_le, ne_eq, Decidable.not_not] at hgb
            exact OpOK.sub (r := [(6, _), (7, _), (8, _), (14, _), (15, _)]) ⟨rfl, rfl, rfl, rfl, rfl, trivial⟩ (by
              exact OpOK.eq (r_fld fld44_0 rfl))
            ), (fun _ _ _ _ _ _ h => h), (FreeR.no _), ?_⟩
        refine ⟨_, false, (fun σ ι w1 hg hd hon => by
            have hN := hN.ofGr ((Gr.refl _).drew.trans hg)
            have hB5 := hB5.gr ((Gr.refl _).drew.trans hg)
            have hB8 := hB8.gr ((Gr.refl _).drew.trans hg)
            have hB9 := hB9.gr ((Gr.refl _).drew.trans hg)
            have hB10 := hB10.gr ((Gr.refl _).drew.trans hg)
            have hB11 := hB11.gr ((Gr.refl _).drew.trans hg)
            have hB12 := hB12.gr ((Gr.refl _).drew.trans hg)
            have hB13 := hB13.gr ((Gr.refl _).drew.trans hg)
            have hB14 := hB14.gr ((Gr.refl _).drew.trans hg)
            have hB15 := hB15.gr ((Gr.refl _).drew.trans hg)
            have f8 := hd 8 (by decide) _ rfl
            have f5 := hd 5 (by decide) _ rfl
            have e8 : σ 8 = _ := f8.1 hon
            have e5 : σ 5 = _ := f5.1 trivial
            have hgd : σ 5 = .bool true := hon
            have hgb := (f5.1 trivial : σ 5 = _).symm.trans hgd
            simp only [Value.bool.injEq] at hgb
            try simp only [decide_eq_true_eq, decide_eq_false_iff_not, Bool.or_eq_true, Bool.and_eq_true, Bool.or_eq_false_iff, Bool.and_eq_false_iff, Bool.not_eq_true', Bool.not_eq_false', Int.not_lt, Int.not_le, ne_eq, Decidable.not_not] at hgb
            exact OpOK.sub (r := [(142, _), (6, _), (7, _), (8, _), (14, _), (15, _)]) ⟨congrArg some e8, rfl, rfl, rfl, rfl, rfl, trivial⟩ (by
              exact OpOK.eq (Box.loadO ag28 rfl hB15 (by simp)))
            ), (fun _ _ _ _ _ _ h => h), (FreeR.no _), ?_⟩
        refine ⟨_, true, (fun σ ι w1 hg hd hon => by
            have hN := hN.ofGr ((Gr.refl _).drew.trans hg)
            have hB5 := hB5.gr ((Gr.refl _).drew.trans hg)
            have hB8 := hB8.gr ((Gr.refl _).drew.trans hg)
            have hB9 := hB9.gr ((Gr.refl _).drew.trans hg)
            have hB10 := hB10.gr ((Gr.refl _).drew.trans hg)
            have hB11 := hB11.gr ((Gr.refl _).drew.trans hg)
            have hB12 := hB12.gr ((Gr.refl _).drew.trans hg)
            have hB13 := hB13.gr ((Gr.refl _).drew.trans hg)
            have hB14 := hB14.gr ((Gr.refl _).drew.trans hg)
            have hB15 := hB15.gr ((Gr.refl _).drew.trans hg)
            have f7 := hd 7 (by decide) _ rfl
            have f9 := hd 9 (by decide) _ rfl
            have f5 := hd 5 (by decide) _ rfl
            have e7 : σ 7 = _ := f7.1 hon
            have e9 : σ 9 = _ := f9.1 hon
            have e5 : σ 5 = _ := f5.1 trivial
            have hgd : σ 5 = .bool true := hon
            have hgb := (f5.1 trivial : σ 5 = _).symm.trans hgd
            simp only [Value.bool.injEq] at hgb
            try simp only [decide_eq_true_eq, decide_eq_false_iff_not, Bool.or_eq_true, Bool.and_eq_true, Bool.or_eq_false_iff, Bool.and_eq_false_iff, Bool.not_eq_true', Bool.not_eq_false', Int.not_lt, Int.not_le, ne_eq, Decidable.not_not] at hgb
            skip
            exact CallOK.sub (r := [(141, _), (143, _), (6, _), (7, _), (8, _), (14, _), (15, _)]) ⟨congrArg some e7, congrArg some e9, rfl, rfl, rfl, rfl, rfl, trivial⟩ (by
              exact CallOK.V (enters_of rfl rfl hb28) (by have hz := rsamep hN.sat hp9 hp10; exact hz))
            ), (fun _ _ _ _ _ _ h => h), (fun _ _ _ _ _ _ h => h), ?_⟩
        refine ⟨_, false, (fun σ ι w1 hg hd hon => by
            have f5 := hd 5 (by decide) _ rfl
            have f10 := hd 10 (by decide) _ rfl
            have e5 : σ 5 = _ := f5.1 trivial
            have ec : σ 5 = _ := f5.1 trivial
            exact OpOK.id (by refine OpOK.and (dc := 139) (dy := 144) (kc := σ 5) (ky := σ 10) ?_ ?_ ec (fun hb => f10.1 (by show σ 5 = _; rw [ec]; exact congrArg Value.bool hb)) <;> rfl)
            ), (fun _ _ _ _ _ _ h => h), (FreeR.no _), ?_⟩
        refine ⟨_, false, (fun σ ι w1 hg hd hon => by
            have f11 := hd 11 (by decide) _ rfl
            have e11 : σ 11 = _ := f11.1 trivial
            exact OpOK.sub (r := [(145, _), (6, _), (7, _), (8, _), (14, _), (15, _)]) ⟨congrArg some e11, rfl, rfl, rfl, rfl, rfl, trivial⟩ (by
              exact OpOK.eq (r_move rfl))
            ), (fun _ _ _ _ _ _ h => h), (FreeR.no _), ?_⟩
        refine ⟨_, false, (fun σ ι w1 hg hd hon => by
            have hN := hN.ofGr ((Gr.refl _).drew.trans hg)
            have hB5 := hB5.gr ((Gr.refl _).drew.trans hg)
            have hB8 := hB8.gr ((Gr.refl _).drew.trans hg)
            have hB9 := hB9.gr ((Gr.refl _).drew.trans hg)
            have hB10 := hB10.gr ((Gr.refl _).drew.trans hg)
            have hB11 := hB11.gr ((Gr.refl _).drew.trans hg)
            have hB12 := hB12.gr ((Gr.refl _).drew.trans hg)
            have hB13 := hB13.gr ((Gr.refl _).drew.trans hg)
            have hB14 := hB14.gr ((Gr.refl _).drew.trans hg)
            have hB15 := hB15.gr ((Gr.refl _).drew.trans hg)
            have f12 := hd 12 (by decide) _ rfl
            have e12 : σ 12 = _ := f12.1 trivial
            have hgd : σ 12 = .bool true := hon
            have hgb := (f12.1 trivial : σ 12 = _).symm.trans hgd
            simp only [Value.bool.injEq] at hgb
            try simp only [decide_eq_true_eq, decide_eq_false_iff_not, Bool.or_eq_true, Bool.and_eq_true, Bool.or_eq_false_iff, Bool.and_eq_false_iff, Bool.not_eq_true', Bool.not_eq_false', Int.not_lt, Int.not_le, ne_eq, Decidable.not_not] at hgb
            exact OpOK.sub (r := [(6, _), (7, _), (8, _), (14, _), (15, _)]) ⟨rfl, rfl, rfl, rfl, rfl, trivial⟩ (by
              exact OpOK.eq (r_loadA (cs := [_, _, _, _, _]) ag26 rfl hB8.agg))
            ), (fun _ _ _ _ _ _ h => h), (FreeR.no _), ?_⟩
        refine ⟨_, true, (fun σ ι w1 hg hd hon => by
            have hN := hN.ofGr ((Gr.refl _).drew.trans hg)
            have hB5 := hB5.gr ((Gr.refl _).drew.trans hg)
            have hB8 := hB8.gr ((Gr.refl _).drew.trans hg)
            have hB9 := hB9.gr ((Gr.refl _).drew.trans hg)
            have hB10 := hB10.gr ((Gr.refl _).drew.trans hg)
            have hB11 := hB11.gr ((Gr.refl _).drew.trans hg)
            have hB12 := hB12.gr ((Gr.refl _).drew.trans hg)
            have hB13 := hB13.gr ((Gr.refl _).drew.trans hg)
            have hB14 := hB14.gr ((Gr.refl _).drew.trans hg)
            have hB15 := hB15.gr ((Gr.refl _).drew.trans hg)
            have f13 := hd 13 (by decide) _ rfl
            have f12 := hd 12 (by decide) _ rfl
            have e13 : σ 13 = _ := f13.1 hon
            have e12 : σ 12 = _ := f12.1 trivial
            have hgd : σ 12 = .bool true := hon
            have hgb := (f12.1 trivial : σ 12 = _).symm.trans hgd
            simp only [Value.bool.injEq] at hgb
            try simp only [decide_eq_true_eq, decide_eq_false_iff_not, Bool.or_eq_true, Bool.and_eq_true, Bool.or_eq_false_iff, Bool.and_eq_false_iff, Bool.not_eq_true', Bool.not_eq_false', Int.not_lt, Int.not_le, ne_eq, Decidable.not_not] at hgb
            skip
            exact CallOK.sub (r := [(147, _), (6, _), (7, _), (8, _), (14, _), (15, _)]) ⟨congrArg some e13, rfl, rfl, rfl, rfl, rfl, trivial⟩ (by
              exact CallOK.M (Φ := PΦ (lsigned y (-1) [])) (enters_of rfl rfl hb29) (ack_ret hN.sat hy))
            ), (by exact monoOwn (J := J27) (Φ := fun _ => PΦ (lsigned y (-1) []))), (fun _ _ _ _ _ _ h => h), ?_⟩
        refine ⟨_, false, (fun σ ι w1 hg hd hon => by
            have hN := hN.ofGr ((Gr.refl _).drew.trans hg)
            have hB5 := hB5.gr ((Gr.refl _).drew.trans hg)
            have hB8 := hB8.gr ((Gr.refl _).drew.trans hg)
            have hB9 := hB9.gr ((Gr.refl _).drew.trans hg)
            have hB10 := hB10.gr ((Gr.refl _).drew.trans hg)
            have hB11 := hB11.gr ((Gr.refl _).drew.trans hg)
            have hB12 := hB12.gr ((Gr.refl _).drew.trans hg)
            have hB13 := hB13.gr ((Gr.refl _).drew.trans hg)
            have hB14 := hB14.gr ((Gr.refl _).drew.trans hg)
            have hB15 := hB15.gr ((Gr.refl _).drew.trans hg)
            have f12 := hd 12 (by decide) _ rfl
            have e12 : σ 12 = _ := f12.1 trivial
            have hgd : σ 12 = .bool true := hon
            have hgb := (f12.1 trivial : σ 12 = _).symm.trans hgd
            simp only [Value.bool.injEq] at hgb
            try simp only [decide_eq_true_eq, decide_eq_false_iff_not, Bool.or_eq_true, Bool.and_eq_true, Bool.or_eq_false_iff, Bool.and_eq_false_iff, Bool.not_eq_true', Bool.not_eq_false', Int.not_lt, Int.not_le, ne_eq, Decidable.not_not] at hgb
            exact OpOK.sub (r := [(6, _), (7, _), (8, _), (14, _), (15, _)]) ⟨rfl, rfl, rfl, rfl, rfl, trivial⟩ (by
              exact OpOK.eq (r_loadA (cs := [_, _, _, _, _]) ag26 rfl hB8.agg))
            ), (fun _ _ _ _ _ _ h => h), (FreeR.no _), ?_⟩
        refine ⟨_, true, (fun σ ι w1 hg hd hon => by
            have hN := hN.ofGr ((Gr.refl _).drew.trans hg)
            have hB5 := hB5.gr ((Gr.refl _).drew.trans hg)
            have hB8 := hB8.gr ((Gr.refl _).drew.trans hg)
            have hB9 := hB9.gr ((Gr.refl _).drew.trans hg)
            have hB10 := hB10.gr ((Gr.refl _).drew.trans hg)
            have hB11 := hB11.gr ((Gr.refl _).drew.trans hg)
            have hB12 := hB12.gr ((Gr.refl _).drew.trans hg)
            have hB13 := hB13.gr ((Gr.refl _).drew.trans hg)
            have hB14 := hB14.gr ((Gr.refl _).drew.trans hg)
            have hB15 := hB15.gr ((Gr.refl _).drew.trans hg)
            have f15 := hd 15 (by decide) _ rfl
            have f12 := hd 12 (by decide) _ rfl
            have e15 : σ 15 = _ := f15.1 hon
            have e12 : σ 12 = _ := f12.1 trivial
            have hgd : σ 12 = .bool true := hon
            have hgb := (f12.1 trivial : σ 12 = _).symm.trans hgd
            simp only [Value.bool.injEq] at hgb
            try simp only [decide_eq_true_eq, decide_eq_false_iff_not, Bool.or_eq_true, Bool.and_eq_true, Bool.or_eq_false_iff, Bool.and_eq_false_iff, Bool.not_eq_true', Bool.not_eq_false', Int.not_lt, Int.not_le, ne_eq, Decidable.not_not] at hgb
            skip
            exact CallOK.sub (r := [(149, _), (6, _), (7, _), (8, _), (14, _), (15, _)]) ⟨congrArg some e15, rfl, rfl, rfl, rfl, rfl, trivial⟩ (by
              exact CallOK.M (Φ := PΦ (lsigned y (-1) [])) (enters_of rfl rfl hb30) (rack_ret hN.sat hy))
            ), (by exact monoOwn (J := J27) (Φ := fun _ => PΦ (lsigned y (-1) []))), (fun _ _ _ _ _ _ h => h), ?_⟩
        refine ⟨_, true, (fun σ ι w1 hg hd hon => by
            have hN := hN.ofGr ((Gr.refl _).drew.trans hg)
            have hB5 := hB5.gr ((Gr.refl _).drew.trans hg)
            have hB8 := hB8.gr ((Gr.refl _).drew.trans hg)
            have hB9 := hB9.gr ((Gr.refl _).drew.trans hg)
            have hB10 := hB10.gr ((Gr.refl _).drew.trans hg)
            have hB11 := hB11.gr ((Gr.refl _).drew.trans hg)
            have hB12 := hB12.gr ((Gr.refl _).drew.trans hg)
            have hB13 := hB13.gr ((Gr.refl _).drew.trans hg)
            have hB14 := hB14.gr ((Gr.refl _).drew.trans hg)
            have hB15 := hB15.gr ((Gr.refl _).drew.trans hg)
            have f14 := hd 14 (by decide) _ rfl
            have f16 := hd 16 (by decide) _ rfl
            have f12 := hd 12 (by decide) _ rfl
            have e14 := f14.1 hon
            obtain ⟨K14, hP14, A14, c14, e14, hK14⟩ := e14
            have e16 := f16.1 hon
            obtain ⟨K16, hP16, A16, c16, e16, hK16⟩ := e16
            have e12 : σ 12 = _ := f12.1 trivial
            have hgd : σ 12 = .bool true := hon
            have hgb := (f12.1 trivial : σ 12 = _).symm.trans hgd
            simp only [Value.bool.injEq] at hgb
            try simp only [decide_eq_true_eq, decide_eq_false_iff_not, Bool.or_eq_true, Bool.and_eq_true, Bool.or_eq_false_iff, Bool.and_eq_false_iff, Bool.not_eq_true', Bool.not_eq_false', Int.not_lt, Int.not_le, ne_eq, Decidable.not_not] at hgb
            skip
            exact CallOK.sub (r := [(148, _), (150, _), (6, _), (7, _), (8, _), (14, _), (15, _)]) ⟨congrArg some e14, congrArg some e16, rfl, rfl, rfl, rfl, rfl, trivial⟩ (by
              exact CallOK.V (enters_of rfl rfl hb28) (by have hz := rsamep (joinI_sat hP14.sat hP16.sat) (hK14.up (joinI_left _ _)) (hK16.up (joinI_right hP14.sat hP16.sat)); exact hz))
            ), (fun _ _ _ _ _ _ h => h), (fun _ _ _ _ _ _ h => h), ?_⟩
        refine ⟨_, false, (fun σ ι w1 hg hd hon => by
            have f12 := hd 12 (by decide) _ rfl
            have f17 := hd 17 (by decide) _ rfl
            have e12 : σ 12 = _ := f12.1 trivial
            have ec : σ 12 = _ := f12.1 trivial
            exact OpOK.id (by refine OpOK.and (dc := 146) (dy := 151) (kc := σ 12) (ky := σ 17) ?_ ?_ ec (fun hb => f17.1 (by show σ 12 = _; rw [ec]; exact congrArg Value.bool hb)) <;> rfl)
            ), (fun _ _ _ _ _ _ h => h), (FreeR.no _), ?_⟩
        refine ⟨_, false, (fun σ ι w1 hg hd hon => by
            have f18 := hd 18 (by decide) _ rfl
            have e18 : σ 18 = _ := f18.1 trivial
            exact OpOK.sub (r := [(152, _), (6, _), (7, _), (8, _), (14, _), (15, _)]) ⟨congrArg some e18, rfl, rfl, rfl, rfl, rfl, trivial⟩ (by
              exact OpOK.eq (r_move rfl))
            ), (fun _ _ _ _ _ _ h => h), (FreeR.no _), ?_⟩
        refine ⟨_, false, (fun σ ι w1 hg hd hon => by
            have f19 := hd 19 (by decide) _ rfl
            have e19 : σ 19 = _ := f19.1 trivial
            have hgd : σ 19 = .bool true := hon
            have hgb := (f19.1 trivial : σ 19 = _).symm.trans hgd
            simp only [Value.bool.injEq] at hgb
            try simp only [decide_eq_true_eq, decide_eq_false_iff_not, Bool.or_eq_true, Bool.and_eq_true, Bool.or_eq_false_iff, Bool.and_eq_false_iff, Bool.not_eq_true', Bool.not_eq_false', Int.not_lt, Int.not_le, ne_eq, Decidable.not_not] at hgb
            exact OpOK.sub (r := [(6, _), (7, _), (8, _), (14, _), (15, _)]) ⟨rfl, rfl, rfl, rfl, rfl, trivial⟩ (by
              exact OpOK.eq (r_move rfl))
            ), (fun _ _ _ _ _ _ h => h), (FreeR.no _), ?_⟩
        refine ⟨_, false, (fun σ ι w1 hg hd hon => by
            have f19 := hd 19 (by decide) _ rfl
            have f20 := hd 20 (by decide) _ rfl
            have e19 : σ 19 = _ := f19.1 trivial
            have ec : σ 19 = _ := f19.1 trivial
            exact OpOK.id (by refine OpOK.and (dc := 153) (dy := 154) (kc := σ 19) (ky := σ 20) ?_ ?_ ec (fun hb => f20.1 (by show σ 19 = _; rw [ec]; exact congrArg Value.bool hb)) <;> rfl)
            ), (fun _ _ _ _ _ _ h => h), (FreeR.no _), ?_⟩
        intro σ ι a49 w33 hgw33 H60 hd hap
        skip
        have hN0 := hN
        have hN := hN.ofGr ((Gr.refl _).drew.trans hgw33)
        replace hB5 := hB5.gr ((Gr.refl _).drew.trans hgw33)
        replace hB8 := hB8.gr ((Gr.refl _).drew.trans hgw33)
        replace hB9 := hB9.gr ((Gr.refl _).drew.trans hgw33)
        replace hB10 := hB10.gr ((Gr.refl _).drew.trans hgw33)
        replace hB11 := hB11.gr ((Gr.refl _).drew.trans hgw33)
        replace hB12 := hB12.gr ((Gr.refl _).drew.trans hgw33)
        replace hB13 := hB13.gr ((Gr.refl _).drew.trans hgw33)
        replace hB14 := hB14.gr ((Gr.refl _).drew.trans hgw33)
        replace hB15 := hB15.gr ((Gr.refl _).drew.trans hgw33)
        have e21 : σ 21 = _ := (hd 21 (by decide) _ rfl).1 trivial
        replace H60 := H60.sub (r := [(155, _), (6, _), (7, _), (8, _), (14, _), (15, _)]) ⟨congrArg some e21, rfl, rfl, rfl, rfl, rfl, trivial⟩
        clear hd
        clear hap
        refine wl1 H60 (r_assign rfl) rfl rfl rfl rfl fun a50 H61 => ?_
        clear H60 a49
        refine wl_end ?_
        refine th_n ?_
        refine wpIn_ret ?_
        refine fin_r H61 (res1 rfl H61 rfl) ?_
        exact ⟨by first | rfl | simp, hN.gr⟩
end Go.Proofs.Ytjjpaghloaggeaa
