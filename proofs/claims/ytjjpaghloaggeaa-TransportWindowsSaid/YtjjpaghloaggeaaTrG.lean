/- Links made of bytes. -/
import Derived.Test.YtjjpaghloaggeaaTrF
import Derived.Test.YtjjpaghloaggeaaLink
set_option linter.unusedVariables false
set_option linter.unusedSimpArgs false
namespace Go.Proofs.Ytjjpaghloaggeaa
open Go.RowKit


def LinkAtPost (I : Im) (w : World) (x : Lk) (v : Value) (w' : World) : Prop := ∃ J, New I w J w' ∧ ∃ A1 c1 A2 c2, v = .agg #[.int .u64 x.key, .slice A1 x.out.length c1, .int .i64 x.base, .slice A2 x.inn.length c2, .int .i64 x.rcv] ∧ LkAt J x A1 c1 A2 c2


theorem gd (b : List Int) {i : Nat} (h : i < b.length) : b.getD i 0 = b[i] := by rw [List.getD_eq_getElem?_getD, List.getElem?_eq_getElem h]; rfl

set_option maxRecDepth 100000 in
set_option maxHeartbeats 1000000 in
theorem rlink_ret {A : Option Addr} {c : Nat} {bs : List Int} {key : Int} {I : Im} {w : World} (hS : Sat I w) (hkey : InK .u64 key) (hA : Els (kInt .u8) I A bs) (hbc : bs.length ≤ c) :
    Ret Try.prog 12 [.int .u64 key, .slice A bs.length c] w (LinkAtPost I w (glink key bs)) := by
  refine ret_of (N := 93) Try.func12 rfl rfl rfl fun a0 H0 => ?_
  have hN := New.refl hS
  simp only [argsEnv, Nat.zero_add, Nat.reduceAdd] at H0
  refine wpIn_seq ?_
  refine w_reg ?_
  refine s_alloc H0 zv26 rfl hN fun w1 b4 hN gw1 hB4 hgeb4 heb4 a1 H1 => ?_
  clear H0 a0
  replace hB4 : Box _ _ _ [.int .u64 0, .slice none 0 0, .int .i64 0, .slice none 0 0, .int .i64 0] 26 := hB4
  refine wl_end ?_
  refine th_n ?_
  refine wpIn_seq ?_
  refine w_reg ?_
  refine wl1 H1 (r_move rfl) rfl rfl rfl rfl fun a2 H2 => ?_
  clear H1 a1
  refine wl1 H2 (r_build (v := .agg #[.int .u64 key, .slice none 0 0, .int .i64 0, .slice none 0 0, .int .i64 0]) rfl (fun w => by kernel_rfl)) rfl rfl rfl rfl fun a3 H3 => ?_
  clear H2 a2
  refine s_alloc H3 zv26 rfl hN fun w2 b5 hN gw2 hB5 hgeb5 heb5 a4 H4 => ?_
  clear H3 a3
  replace hB5 : Box _ _ _ [.int .u64 0, .slice none 0 0, .int .i64 0, .slice none 0 0, .int .i64 0] 26 := hB5
  have hne_hB4_b5 := hB4.lt
  rw [← heb5] at hne_hB4_b5
  replace hB4 := hB4.gr gw2
  refine s_storeA (vs := [_, _, _, _, _]) H4 sz26 (by simp) (by simp [Value.oneCell']) rfl rfl hN hB5 (by simp) hgeb5 fun w3 hN hB5 ew3 H5 => ?_
  clear H4
  replace hB4 := hB4.otherE ew3 (by omega)
  simp only [Nat.zero_add, Nat.add_zero, Nat.reduceAdd, Nat.reduceMul, List.set_cons_zero, List.set_cons_succ, spliceL] at hB5
  clear ew3
  refine wl_end ?_
  refine th_n ?_
  refine wpIn_seq ?_
  refine wpIn_seq ?_
  refine w_reg ?_
  obtain ⟨B9, hBw⟩ : ∃ B, B = (w3).heap.size := ⟨_, rfl⟩
  have hlt4b := hB4.lt
  have hlt5b := hB5.lt
  have hwB : w.heap.size ≤ B9 := by rw [hBw]; exact hN.gr.size
  have hszB : B9 ≤ (w3).heap.size := Nat.le_of_eq hBw
  refine wl1 H5 (r_assign rfl) rfl rfl rfl rfl fun a5 H6 => ?_
  clear H5 a4
  refine wl_end ?_
  refine th_n ?_
  refine wpIn_block ?_
  refine w_loop (ι := (Nat × Value × Value) × Im) (fun xJ => (fun x => [(6, .int .i64 (x.1 : Int))]) xJ.1) (fun xJ W => Im.le I xJ.2 ∧ New I w xJ.2 W ∧ (fun x (J : Im) => x.1 ≤ bs.length ∧ x.1 ≤ 40 ∧ Box J W b5 [.int .u64 key, x.2.1, .int .i64 0, x.2.2, .int .i64 0] 26 ∧ Box J W b4 [.int .u64 0, .slice none 0 0, .int .i64 0, .slice none 0 0, .int .i64 0] 26 ∧ B9 ≤ W.heap.size ∧ OwnK kB J W B9 23 x.2.1 (lkLists bs x.1).1 ∧ OwnK kB J W B9 23 x.2.2 (lkLists bs x.1).2 ∧ Ne2 x.2.1 x.2.2) xJ.1 xJ.2) (fun xJ => (fun x => bs.length - x.1) xJ.1) (l0 := [(1, _), (4, _), (5, _)]) ((0, .slice none 0 0, .slice none 0 0), I) H6 ⟨rfl, rfl, rfl, rfl, trivial⟩ ⟨Im.le.refl _, hN, Nat.zero_le _, Nat.zero_le _, hB5, hB4, hszB, OwnK.nil _ _ _ _ _, OwnK.nil _ _ _ _ _, Ne2.nil _⟩ ?_
  rintro ⟨⟨k, u1, u2⟩, J4⟩ a6 w4 H7 ⟨hleJ1, hN, hk, hk4, hB5, hB4, hszB, hO, hQ, hne⟩
  clear H6 a5
  simp only [List.cons_append, List.nil_append] at H7
  try dsimp only at hleJ1
  try dsimp only at hN
  replace hA := hA.up hleJ1
  simp only at hk hk4 hB5 hB4 hszB hO hQ hne H7
  obtain ⟨A1, c1, rfl, hc1, _, _⟩ := hO.form
  obtain ⟨A2, c2, rfl, hc2, _, _⟩ := hQ.form
  obtain ⟨hll, hll2, _, _⟩ := lkLists_len bs k
  try dsimp only at hB4
  try dsimp only at hB5
  try dsimp only at hO
  try dsimp only at hQ
  try dsimp only at hk
  try dsimp only at hk4
  try dsimp only at hne
  try dsimp only at hszB
  refine wpIn_seq ?_
  refine wpIn_seq ?_
  refine w_reg ?_
  refine wl1 H7 (r_move rfl) rfl rfl rfl rfl fun a7 H8 => ?_
  clear H7 a6
  refine wl1 H8 (r_move rfl) rfl rfl rfl rfl fun a8 H9 => ?_
  clear H8 a7
  refine wl1 H9 (r_len Try.underlying23 rfl) rfl rfl rfl rfl fun a9 H10 => ?_
  clear H9 a8
  refine wl1 H10 (r_lss rfl rfl) rfl rfl rfl rfl fun a10 H11 => ?_
  clear H10 a9
  refine wl1 H11 (r_move rfl) rfl rfl rfl rfl fun a11 H12 => ?_
  clear H11 a10
  refine wl_split (t := 13) H12 rfl (fun hg3_4 H13 => ?_) (fun hg3_4 H13 => ?_)
  ·
    clear H12
    try simp only [decide_eq_true_eq, decide_eq_false_iff_not, Bool.or_eq_true, Bool.and_eq_true, Bool.or_eq_false_iff, Bool.and_eq_false_iff, Bool.not_eq_true', Bool.not_eq_false', Int.not_lt, Int.not_le, ne_eq, Decidable.not_not] at hg3_4
    have hkl : k < bs.length := by omega
    obtain ⟨bA, oA, rfl⟩ := hA.form (by omega)
    have hgk := gd bs hkl
    refine wl_on (d := 13) H13 rfl rfl rfl ?_
    refine wl1 H13 (r_move rfl) rfl rfl rfl rfl fun a12 H14 => ?_
    clear H13 a11
    refine wl_on (d := 13) H14 rfl rfl rfl ?_
    refine wl1 H14 (r_lss rfl rfl) rfl rfl rfl rfl fun a13 H15 => ?_
    clear H14 a12
    refine wl1 H15 (r_pick_t rfl rfl) rfl rfl rfl rfl fun a14 H16 => ?_
    clear H15 a13
    refine wl_end ?_
    refine th_n ?_
    first | refine w_if H16 rfl (fun hc16 => ?_) (fun hc16 => ?_) | refine w_cond H16 rfl (fun hc16 => ?_) (fun hc16 => ?_)
    ·
      try simp only [decide_eq_true_eq, decide_eq_false_iff_not, Bool.or_eq_true, Bool.and_eq_true, Bool.or_eq_false_iff, Bool.and_eq_false_iff, Bool.not_eq_true', Bool.not_eq_false', Int.not_lt, Int.not_le, ne_eq, Decidable.not_not] at hc16
      refine wpIn_skip ?_
      refine th_n ?_
      refine wpIn_seq ?_
      refine wpIn_block ?_
      refine wpIn_seq ?_
      refine w_reg ?_
      refine wl1 H16 (r_move rfl) rfl rfl rfl rfl fun a15 H17 => ?_
      clear H16 a14
      refine wl1 H17 (r_move rfl) rfl rfl rfl rfl fun a16 H18 => ?_
      clear H17 a15
      refine wl1 H18 (r_idx Try.underlying23 sz5 rfl rfl (i := k) rfl (by omega)) rfl rfl rfl rfl fun a17 H19 => ?_
      clear H18 a16
      refine wl1 H19 (r_load sc5 rfl (hN.sat.cell (hA.num (j := k) hkl).1)) rfl rfl rfl rfl fun a18 H20 => ?_
      clear H19 a17
      have hb8 := (hA.num (j := k) hkl).2
      simp only [InK] at hb8
      refine wl1 H20 (r_remk rfl rfl (by omega) (by omega)) rfl rfl rfl rfl fun a19 H21 => ?_
      clear H20 a18
      refine wl1 H21 (r_eql rfl rfl) rfl rfl rfl rfl fun a20 H22 => ?_
      clear H21 a19
      refine wl1 H22 (r_move rfl) rfl rfl rfl rfl fun a21 H23 => ?_
      clear H22 a20
      refine wl_split (t := 25) H23 rfl (fun hg5_6 H24 => ?_) (fun hg5_6 H24 => ?_)
      ·
        clear H23
        try simp only [decide_eq_true_eq, decide_eq_false_iff_not, Bool.or_eq_true, Bool.and_eq_true, Bool.or_eq_false_iff, Bool.and_eq_false_iff, Bool.not_eq_true', Bool.not_eq_false', Int.not_lt, Int.not_le, ne_eq, Decidable.not_not] at hg5_6
        refine wl_on (d := 25) H24 rfl rfl rfl ?_
        refine wl1 H24 (r_fld fld26_1 rfl) rfl rfl rfl rfl fun a22 H25 => ?_
        clear H24 a21
        refine wl_on (d := 25) H25 rfl rfl rfl ?_
        refine wl1 H25 (r_load sc24 rfl (hB5.cell rfl)) rfl rfl rfl rfl fun a23 H26 => ?_
        clear H25 a22
        refine wl_on (d := 25) H26 rfl rfl rfl ?_
        refine wl1 H26 (r_len Try.underlying24 rfl) rfl rfl rfl rfl fun a24 H27 => ?_
        clear H26 a23
        refine wl_on (d := 25) H27 rfl rfl rfl ?_
        refine wl1 H27 (r_lss rfl rfl) rfl rfl rfl rfl fun a25 H28 => ?_
        clear H27 a24
        refine wl1 H28 (r_pick_t rfl rfl) rfl rfl rfl rfl fun a26 H29 => ?_
        clear H28 a25
        refine wl_end ?_
        refine th_n ?_
        first | refine w_if H29 rfl (fun hc30 => ?_) (fun hc30 => ?_) | refine w_cond H29 rfl (fun hc30 => ?_) (fun hc30 => ?_)
        ·
          try simp only [decide_eq_true_eq, decide_eq_false_iff_not, Bool.or_eq_true, Bool.and_eq_true, Bool.or_eq_false_iff, Bool.and_eq_false_iff, Bool.not_eq_true', Bool.not_eq_false', Int.not_lt, Int.not_le, ne_eq, Decidable.not_not] at hc30
          have hS0 := hN.sat
          have hNsz6 := hN.gr.size
          refine w_drawE (m := 7) (l0 := [(1, _), (4, _), (5, _), (6, _)]) hfol H29 ⟨rfl, rfl, rfl, rfl, trivial⟩ (by kernel_rfl) ?_
          refine ⟨_, false, (fun σ ι w1 hg hd hon => by
              exact OpOK.sub (r := [(1, _), (4, _), (5, _), (6, _)]) ⟨rfl, rfl, rfl, rfl, trivial⟩ (by
                exact OpOK.eq (r_fld fld26_1 rfl))
              ), (fun _ _ _ _ _ _ h => h), (FreeR.no _), ?_⟩
          refine ⟨_, false, (fun σ ι w1 hg hd hon => by
              have hN := hN.ofGr ((Gr.refl _).drew.trans hg)
              have hB5 := hB5.gr ((Gr.refl _).drew.trans hg)
              have hB4 := hB4.gr ((Gr.refl _).drew.trans hg)
              have hO := hO.gr ((Gr.refl _).drew.trans hg)
              have hQ := hQ.gr ((Gr.refl _).drew.trans hg)
              have f0 := hd 0 (by decide) _ rfl
              have e0 : σ 0 = _ := f0.1 trivial
              exact OpOK.sub (r := [(31, _), (1, _), (4, _), (5, _), (6, _)]) ⟨congrArg some e0, rfl, rfl, rfl, rfl, trivial⟩ (by
                exact OpOK.eq (r_load sc24 rfl (hB5.cell rfl)))
              ), (fun _ _ _ _ _ _ h => h), (FreeR.no _), ?_⟩
          refine ⟨_, false, (fun σ ι w1 hg hd hon => by
              exact OpOK.sub (r := [(1, _), (4, _), (5, _), (6, _)]) ⟨rfl, rfl, rfl, rfl, trivial⟩ (by
                exact OpOK.eq (r_move rfl))
              ), (fun _ _ _ _ _ _ h => h), (FreeR.no _), ?_⟩
          refine ⟨_, false, (fun σ ι w1 hg hd hon => by
              exact OpOK.sub (r := [(1, _), (4, _), (5, _), (6, _)]) ⟨rfl, rfl, rfl, rfl, trivial⟩ (by
                exact OpOK.eq (r_move rfl))
              ), (fun _ _ _ _ _ _ h => h), (FreeR.no _), ?_⟩
          refine ⟨_, false, (fun σ ι w1 hg hd hon => by
              have f3 := hd 3 (by decide) _ rfl
              have e3 : σ 3 = _ := f3.1 trivial
              exact OpOK.sub (r := [(34, _), (1, _), (4, _), (5, _), (6, _)]) ⟨congrArg some e3, rfl, rfl, rfl, rfl, trivial⟩ (by
                exact OpOK.eq (r_remk rfl rfl (by omega) (by omega)))
              ), (fun _ _ _ _ _ _ h => h), (FreeR.no _), ?_⟩
          refine ⟨_, false, (fun σ ι w1 hg hd hon => by
              have f2 := hd 2 (by decide) _ rfl
              have f4 := hd 4 (by decide) _ rfl
              have e2 : σ 2 = _ := f2.1 trivial
              have e4 : σ 4 = _ := f4.1 trivial
              exact OpOK.sub (r := [(33, _), (35, _), (1, _), (4, _), (5, _), (6, _)]) ⟨congrArg some e2, congrArg some e4, rfl, rfl, rfl, rfl, trivial⟩ (by
                exact OpOK.eq (r_upto (hi := (bs.take (k % 5)).length) Try.underlying23 sz5 rfl rfl (by simp; omega) (by simp; omega)))
              ), (fun _ _ _ _ _ _ h => h), (FreeR.no _), ?_⟩
          refine ⟨_, false, (fun σ ι w1 hg hd hon => by
              have hN := hN.ofGr ((Gr.refl _).drew.trans hg)
              have hB5 := hB5.gr ((Gr.refl _).drew.trans hg)
              have hB4 := hB4.gr ((Gr.refl _).drew.trans hg)
              have hO := hO.gr ((Gr.refl _).drew.trans hg)
              have hQ := hQ.gr ((Gr.refl _).drew.trans hg)
              have f5 := hd 5 (by decide) _ rfl
              have e5 : σ 5 = _ := f5.1 trivial
              exact OpOK.sub (r := [(36, _), (1, _), (4, _), (5, _), (6, _)]) ⟨congrArg some e5, rfl, rfl, rfl, rfl, trivial⟩ (by exact OpOK.litM (dk := kB) (J := J4) (xs := [bs.take (k % 5)]) (cs := [.slice _ (bs.take (k % 5)).length c]) Try.underlying24 sz23 zv23 (by rfl) (by rfl) (by rfl) (by simp [Value.oneCell']) hN.sat (Row.one ⟨_, c, rfl, by simp; omega, hA.take _⟩) (by simp))
              ), (by exact monoOwn (J := J4) (Φ := fun _ K u => ∃ b, u = .slice (some ⟨b, 0, none⟩) 1 1 ∧ Els (kB) K (some ⟨b, 0, none⟩) ([bs.take (k % 5)]))), (FreeR.no _), ?_⟩
          intro σ ι a27 w6 hgw6 H30 hd hap
          skip
          have hN0 := hN
          have hN := hN.ofGr ((Gr.refl _).drew.trans hgw6)
          have hNd := (New.refl (hS0.drewS)).ofGr hgw6
          obtain ⟨K6, hP6, l6, e6, hE6⟩ := (hd 6 (by decide) _ rfl).1 trivial
          replace hE6 := hE6.up (joinI_right hNd.sat hP6.sat)
          replace hNd := hNd.part hNd.le hP6 (hap.1 6 (by decide)).1
          replace hB5 := (hB5.gr (Gr.refl _).drew).next hNd
          replace hB4 := (hB4.gr (Gr.refl _).drew).next hNd
          replace hO := (hO.gr (Gr.refl _).drew).next hNd
          replace hQ := (hQ.gr (Gr.refl _).drew).next hNd
          replace hA := hA.up hNd.le
          replace hleJ1 := hleJ1.trans hNd.le
          replace hszB := Nat.le_trans hszB hgw6.size
          have hN := hN0.drew.trans hNd
          have e1 : σ 1 = _ := (hd 1 (by decide) _ rfl).1 trivial
          replace H30 := H30.sub (r := [(32, _), (37, _), (1, _), (4, _), (5, _), (6, _)]) ⟨congrArg some e1, congrArg some e6, rfl, rfl, rfl, rfl, trivial⟩
          clear hd
          clear hap
          refine s_app2 (d := kB) (d2 := kB) H30 rfl rfl Try.underlying24 nf23 rfl (by decide) (by decide) rfl hN hO hQ hne hE6 rfl (by decide) hwB hszB (by omega) fun vw7 w7 hO hQ hne kw7 hN a28 H31 => ?_
          clear H30 a27
          replace hB5 := hB5.keep kw7 (by omega)
          replace hB4 := hB4.keep kw7 (by omega)
          replace hszB := Nat.le_trans hszB kw7.size
          obtain ⟨A7, c7, rfl, _, _, _⟩ := hO.form
          refine wl1 H31 (r_fld fld26_1 rfl) rfl rfl rfl rfl fun a29 H32 => ?_
          clear H31 a28
          refine s_store H32 sz24 rfl rfl rfl hN hB5 (by simp) hgeb5 fun w8 hN hB5 ew8 H33 => ?_
          clear H32
          replace hB4 := hB4.otherE ew8 (by omega)
          replace hO := hO.otherE ew8 (by omega)
          replace hQ := hQ.otherE ew8 (by omega)
          replace hszB := sz_setB ew8 hszB
          simp only [Nat.zero_add, Nat.add_zero, Nat.reduceAdd, Nat.reduceMul, List.set_cons_zero, List.set_cons_succ, spliceL] at hB5
          clear ew8
          refine wl_end ?_
          refine bl_n ?_
          refine th_n ?_
          refine w_reg ?_
          obtain ⟨v1, v2, hB5, hO, hQ, hne⟩ : ∃ v1 v2, Box (joinI J4 K6) w8 b5 [.int .u64 key, v1, .int .i64 0, v2, .int .i64 0] 26 ∧ OwnK kB (joinI J4 K6) w8 B9 23 v1 (lkLists bs (k + 1)).1 ∧ OwnK kB (joinI J4 K6) w8 B9 23 v2 (lkLists bs (k + 1)).2 ∧ Ne2 v1 v2 := by
            first
              | (have hstep : lkLists bs (k + 1) = ((lkLists bs k).1 ++ [bs.take (k % 5)], (lkLists bs k).2) := by simp only [lkLists, lkStep]; rw [if_pos (by rw [hgk]; omega)]
                 exact ⟨_, _, hB5, by rw [hstep]; exact hO, by rw [hstep]; exact hQ, hne⟩)
              | (have hstep : lkLists bs (k + 1) = ((lkLists bs k).1, (lkLists bs k).2 ++ [bs.take (k % 4)]) := by simp only [lkLists, lkStep]; rw [if_neg (by rw [hgk]; omega)]
                 exact ⟨_, _, hB5, by rw [hstep]; exact hO, by rw [hstep]; exact hQ, hne.symm⟩)
          refine wl1 H33 (r_move rfl) rfl rfl rfl rfl fun a30 H34 => ?_
          clear H33 a29
          first | refine wl1 H34 (r_addk rfl rfl (by simp only [InK]; omega)) rfl rfl rfl rfl fun a31 H35 => ?_ | refine wl1 H34 (r_add rfl rfl) rfl rfl rfl rfl fun a31 H35 => ?_
          clear H34 a30
          refine wl1 H35 (r_assign rfl) rfl rfl rfl rfl fun a32 H36 => ?_
          clear H35 a31
          refine wl_end ?_
          exact th_n ⟨((k + 1, v1, v2), (joinI J4 K6)), (by show bs.length - (k + 1) < bs.length - k; omega), H36.sub ⟨rfl, rfl, rfl, rfl, trivial⟩, hleJ1, hN, by show k + 1 ≤ bs.length; omega, by show k + 1 ≤ 40; omega, hB5, hB4, hszB, hO, hQ, hne⟩
        ·
          try simp only [decide_eq_true_eq, decide_eq_false_iff_not, Bool.or_eq_true, Bool.and_eq_true, Bool.or_eq_false_iff, Bool.and_eq_false_iff, Bool.not_eq_true', Bool.not_eq_false', Int.not_lt, Int.not_le, ne_eq, Decidable.not_not] at hc30
          have hS0 := hN.sat
          have hNsz7 := hN.gr.size
          refine w_drawE (m := 7) (l0 := [(1, _), (4, _), (5, _), (6, _)]) hfol H29 ⟨rfl, rfl, rfl, rfl, trivial⟩ (by kernel_rfl) ?_
          refine ⟨_, false, (fun σ ι w1 hg hd hon => by
              exact OpOK.sub (r := [(1, _), (4, _), (5, _), (6, _)]) ⟨rfl, rfl, rfl, rfl, trivial⟩ (by
                exact OpOK.eq (r_fld fld26_3 rfl))
              ), (fun _ _ _ _ _ _ h => h), (FreeR.no _), ?_⟩
          refine ⟨_, false, (fun σ ι w1 hg hd hon => by
              have hN := hN.ofGr ((Gr.refl _).drew.trans hg)
              have hB5 := hB5.gr ((Gr.refl _).drew.trans hg)
              have hB4 := hB4.gr ((Gr.refl _).drew.trans hg)
              have hO := hO.gr ((Gr.refl _).drew.trans hg)
              have hQ := hQ.gr ((Gr.refl _).drew.trans hg)
              have f0 := hd 0 (by decide) _ rfl
              have e0 : σ 0 = _ := f0.1 trivial
              exact OpOK.sub (r := [(40, _), (1, _), (4, _), (5, _), (6, _)]) ⟨congrArg some e0, rfl, rfl, rfl, rfl, trivial⟩ (by
                exact OpOK.eq (r_load sc24 rfl (hB5.cell rfl)))
              ), (fun _ _ _ _ _ _ h => h), (FreeR.no _), ?_⟩
          refine ⟨_, false, (fun σ ι w1 hg hd hon => by
              exact OpOK.sub (r := [(1, _), (4, _), (5, _), (6, _)]) ⟨rfl, rfl, rfl, rfl, trivial⟩ (by
                exact OpOK.eq (r_move rfl))
              ), (fun _ _ _ _ _ _ h => h), (FreeR.no _), ?_⟩
          refine ⟨_, false, (fun σ ι w1 hg hd hon => by
              exact OpOK.sub (r := [(1, _), (4, _), (5, _), (6, _)]) ⟨rfl, rfl, rfl, rfl, trivial⟩ (by
                exact OpOK.eq (r_move rfl))
              ), (fun _ _ _ _ _ _ h => h), (FreeR.no _), ?_⟩
          refine ⟨_, false, (fun σ ι w1 hg hd hon => by
              have f3 := hd 3 (by decide) _ rfl
              have e3 : σ 3 = _ := f3.1 trivial
              exact OpOK.sub (r := [(43, _), (1, _), (4, _), (5, _), (6, _)]) ⟨congrArg some e3, rfl, rfl, rfl, rfl, trivial⟩ (by
                exact OpOK.eq (r_remk rfl rfl (by omega) (by omega)))
              ), (fun _ _ _ _ _ _ h => h), (FreeR.no _), ?_⟩
          refine ⟨_, false, (fun σ ι w1 hg hd hon => by
              have f2 := hd 2 (by decide) _ rfl
              have f4 := hd 4 (by decide) _ rfl
              have e2 : σ 2 = _ := f2.1 trivial
              have e4 : σ 4 = _ := f4.1 trivial
              exact OpOK.sub (r := [(42, _), (44, _), (1, _), (4, _), (5, _), (6, _)]) ⟨congrArg some e2, congrArg some e4, rfl, rfl, rfl, rfl, trivial⟩ (by
                exact OpOK.eq (r_upto (hi := (bs.take (k % 4)).length) Try.underlying23 sz5 rfl rfl (by simp; omega) (by simp; omega)))
              ), (fun _ _ _ _ _ _ h => h), (FreeR.no _), ?_⟩
          refine ⟨_, false, (fun σ ι w1 hg hd hon => by
              have hN := hN.ofGr ((Gr.refl _).drew.trans hg)
              have hB5 := hB5.gr ((Gr.refl _).drew.trans hg)
              have hB4 := hB4.gr ((Gr.refl _).drew.trans hg)
              have hO := hO.gr ((Gr.refl _).drew.trans hg)
              have hQ := hQ.gr ((Gr.refl _).drew.trans hg)
              have f5 := hd 5 (by decide) _ rfl
              have e5 : σ 5 = _ := f5.1 trivial
              exact OpOK.sub (r := [(45, _), (1, _), (4, _), (5, _), (6, _)]) ⟨congrArg some e5, rfl, rfl, rfl, rfl, trivial⟩ (by exact OpOK.litM (dk := kB) (J := J4) (xs := [bs.take (k % 4)]) (cs := [.slice _ (bs.take (k % 4)).length c]) Try.underlying24 sz23 zv23 (by rfl) (by rfl) (by rfl) (by simp [Value.oneCell']) hN.sat (Row.one ⟨_, c, rfl, by simp; omega, hA.take _⟩) (by simp))
              ), (by exact monoOwn (J := J4) (Φ := fun _ K u => ∃ b, u = .slice (some ⟨b, 0, none⟩) 1 1 ∧ Els (kB) K (some ⟨b, 0, none⟩) ([bs.take (k % 4)]))), (FreeR.no _), ?_⟩
          intro σ ι a27 w10 hgw10 H37 hd hap
          skip
          have hN0 := hN
          have hN := hN.ofGr ((Gr.refl _).drew.trans hgw10)
          have hNd := (New.refl (hS0.drewS)).ofGr hgw10
          obtain ⟨K6, hP6, l6, e6, hE6⟩ := (hd 6 (by decide) _ rfl).1 trivial
          replace hE6 := hE6.up (joinI_right hNd.sat hP6.sat)
          replace hNd := hNd.part hNd.le hP6 (hap.1 6 (by decide)).1
          replace hB5 := (hB5.gr (Gr.refl _).drew).next hNd
          replace hB4 := (hB4.gr (Gr.refl _).drew).next hNd
          replace hO := (hO.gr (Gr.refl _).drew).next hNd
          replace hQ := (hQ.gr (Gr.refl _).drew).next hNd
          replace hA := hA.up hNd.le
          replace hleJ1 := hleJ1.trans hNd.le
          replace hszB := Nat.le_trans hszB hgw10.size
          have hN := hN0.drew.trans hNd
          have e1 : σ 1 = _ := (hd 1 (by decide) _ rfl).1 trivial
          replace H37 := H37.sub (r := [(41, _), (46, _), (1, _), (4, _), (5, _), (6, _)]) ⟨congrArg some e1, congrArg some e6, rfl, rfl, rfl, rfl, trivial⟩
          clear hd
          clear hap
          refine s_app2 (d := kB) (d2 := kB) H37 rfl rfl Try.underlying24 nf23 rfl (by decide) (by decide) rfl hN hQ hO hne.symm hE6 rfl (by decide) hwB hszB (by omega) fun vw11 w11 hQ hO hne kw11 hN a28 H38 => ?_
          clear H37 a27
          replace hB5 := hB5.keep kw11 (by omega)
          replace hB4 := hB4.keep kw11 (by omega)
          replace hszB := Nat.le_trans hszB kw11.size
          obtain ⟨A7, c7, rfl, _, _, _⟩ := hQ.form
          refine wl1 H38 (r_fld fld26_3 rfl) rfl rfl rfl rfl fun a29 H39 => ?_
          clear H38 a28
          refine s_store H39 sz24 rfl rfl rfl hN hB5 (by simp) hgeb5 fun w12 hN hB5 ew12 H40 => ?_
          clear H39
          replace hB4 := hB4.otherE ew12 (by omega)
          replace hO := hO.otherE ew12 (by omega)
          replace hQ := hQ.otherE ew12 (by omega)
          replace hszB := sz_setB ew12 hszB
          simp only [Nat.zero_add, Nat.add_zero, Nat.reduceAdd, Nat.reduceMul, List.set_cons_zero, List.set_cons_succ, spliceL] at hB5
          clear ew12
          refine wl_end ?_
          refine bl_n ?_
          refine th_n ?_
          refine w_reg ?_
          obtain ⟨v1, v2, hB5, hO, hQ, hne⟩ : ∃ v1 v2, Box (joinI J4 K6) w12 b5 [.int .u64 key, v1, .int .i64 0, v2, .int .i64 0] 26 ∧ OwnK kB (joinI J4 K6) w12 B9 23 v1 (lkLists bs (k + 1)).1 ∧ OwnK kB (joinI J4 K6) w12 B9 23 v2 (lkLists bs (k + 1)).2 ∧ Ne2 v1 v2 := by
            first
              | (have hstep : lkLists bs (k + 1) = ((lkLists bs k).1 ++ [bs.take (k % 5)], (lkLists bs k).2) := by simp only [lkLists, lkStep]; rw [if_pos (by rw [hgk]; omega)]
                 exact ⟨_, _, hB5, by rw [hstep]; exact hO, by rw [hstep]; exact hQ, hne⟩)
              | (have hstep : lkLists bs (k + 1) = ((lkLists bs k).1, (lkLists bs k).2 ++ [bs.take (k % 4)]) := by simp only [lkLists, lkStep]; rw [if_neg (by rw [hgk]; omega)]
                 exact ⟨_, _, hB5, by rw [hstep]; exact hO, by rw [hstep]; exact hQ, hne.symm⟩)
          refine wl1 H40 (r_move rfl) rfl rfl rfl rfl fun a30 H41 => ?_
          clear H40 a29
          first | refine wl1 H41 (r_addk rfl rfl (by simp only [InK]; omega)) rfl rfl rfl rfl fun a31 H42 => ?_ | refine wl1 H41 (r_add rfl rfl) rfl rfl rfl rfl fun a31 H42 => ?_
          clear H41 a30
          refine wl1 H42 (r_assign rfl) rfl rfl rfl rfl fun a32 H43 => ?_
          clear H42 a31
          refine wl_end ?_
          exact th_n ⟨((k + 1, v1, v2), (joinI J4 K6)), (by show bs.length - (k + 1) < bs.length - k; omega), H43.sub ⟨rfl, rfl, rfl, rfl, trivial⟩, hleJ1, hN, by show k + 1 ≤ bs.length; omega, by show k + 1 ≤ 40; omega, hB5, hB4, hszB, hO, hQ, hne⟩
      ·
        clear H23
        try simp only [decide_eq_true_eq, decide_eq_false_iff_not, Bool.or_eq_true, Bool.and_eq_true, Bool.or_eq_false_iff, Bool.and_eq_false_iff, Bool.not_eq_true', Bool.not_eq_false', Int.not_lt, Int.not_le, ne_eq, Decidable.not_not] at hg5_6
        refine wl_off (d := 25) H24 rfl rfl rfl rfl rfl rfl fun a22 H44 => ?_
        clear H24 a21
        refine wl_off (d := 25) H44 rfl rfl rfl rfl rfl rfl fun a23 H45 => ?_
        clear H44 a22
        refine wl_off (d := 25) H45 rfl rfl rfl rfl rfl rfl fun a24 H46 => ?_
        clear H45 a23
        refine wl_off (d := 25) H46 rfl rfl rfl rfl rfl rfl fun a25 H47 => ?_
        clear H46 a24
        refine wl1 H47 (r_pick_f rfl rfl) rfl rfl rfl rfl fun a26 H48 => ?_
        clear H47 a25
        refine wl_end ?_
        refine th_n ?_
        refine w_ff H48 rfl rfl ?_
        have hS0 := hN.sat
        have hNsz7 := hN.gr.size
        refine w_drawE (m := 7) (l0 := [(1, _), (4, _), (5, _), (6, _)]) hfol H48 ⟨rfl, rfl, rfl, rfl, trivial⟩ (by kernel_rfl) ?_
        refine ⟨_, false, (fun σ ι w1 hg hd hon => by
            exact OpOK.sub (r := [(1, _), (4, _), (5, _), (6, _)]) ⟨rfl, rfl, rfl, rfl, trivial⟩ (by
              exact OpOK.eq (r_fld fld26_3 rfl))
            ), (fun _ _ _ _ _ _ h => h), (FreeR.no _), ?_⟩
        refine ⟨_, false, (fun σ ι w1 hg hd hon => by
            have hN := hN.ofGr ((Gr.refl _).drew.trans hg)
            have hB5 := hB5.gr ((Gr.refl _).drew.trans hg)
            have hB4 := hB4.gr ((Gr.refl _).drew.trans hg)
            have hO := hO.gr ((Gr.refl _).drew.trans hg)
            have hQ := hQ.gr ((Gr.refl _).drew.trans hg)
            have f0 := hd 0 (by decide) _ rfl
            have e0 : σ 0 = _ := f0.1 trivial
            exact OpOK.sub (r := [(40, _), (1, _), (4, _), (5, _), (6, _)]) ⟨congrArg some e0, rfl, rfl, rfl, rfl, trivial⟩ (by
              exact OpOK.eq (r_load sc24 rfl (hB5.cell rfl)))
            ), (fun _ _ _ _ _ _ h => h), (FreeR.no _), ?_⟩
        refine ⟨_, false, (fun σ ι w1 hg hd hon => by
            exact OpOK.sub (r := [(1, _), (4, _), (5, _), (6, _)]) ⟨rfl, rfl, rfl, rfl, trivial⟩ (by
              exact OpOK.eq (r_move rfl))
            ), (fun _ _ _ _ _ _ h => h), (FreeR.no _), ?_⟩
        refine ⟨_, false, (fun σ ι w1 hg hd hon => by
            exact OpOK.sub (r := [(1, _), (4, _), (5, _), (6, _)]) ⟨rfl, rfl, rfl, rfl, trivial⟩ (by
              exact OpOK.eq (r_move rfl))
            ), (fun _ _ _ _ _ _ h => h), (FreeR.no _), ?_⟩
        refine ⟨_, false, (fun σ ι w1 hg hd hon => by
            have f3 := hd 3 (by decide) _ rfl
            have e3 : σ 3 = _ := f3.1 trivial
            exact OpOK.sub (r := [(43, _), (1, _), (4, _), (5, _), (6, _)]) ⟨congrArg some e3, rfl, rfl, rfl, rfl, trivial⟩ (by
              exact OpOK.eq (r_remk rfl rfl (by omega) (by omega)))
            ), (fun _ _ _ _ _ _ h => h), (FreeR.no _), ?_⟩
        refine ⟨_, false, (fun σ ι w1 hg hd hon => by
            have f2 := hd 2 (by decide) _ rfl
            have f4 := hd 4 (by decide) _ rfl
            have e2 : σ 2 = _ := f2.1 trivial
            have e4 : σ 4 = _ := f4.1 trivial
            exact OpOK.sub (r := [(42, _), (44, _), (1, _), (4, _), (5, _), (6, _)]) ⟨congrArg some e2, congrArg some e4, rfl, rfl, rfl, rfl, trivial⟩ (by
              exact OpOK.eq (r_upto (hi := (bs.take (k % 4)).length) Try.underlying23 sz5 rfl rfl (by simp; omega) (by simp; omega)))
            ), (fun _ _ _ _ _ _ h => h), (FreeR.no _), ?_⟩
        refine ⟨_, false, (fun σ ι w1 hg hd hon => by
            have hN := hN.ofGr ((Gr.refl _).drew.trans hg)
            have hB5 := hB5.gr ((Gr.refl _).drew.trans hg)
            have hB4 := hB4.gr ((Gr.refl _).drew.trans hg)
            have hO := hO.gr ((Gr.refl _).drew.trans hg)
            have hQ := hQ.gr ((Gr.refl _).drew.trans hg)
            have f5 := hd 5 (by decide) _ rfl
            have e5 : σ 5 = _ := f5.1 trivial
            exact OpOK.sub (r := [(45, _), (1, _), (4, _), (5, _), (6, _)]) ⟨congrArg some e5, rfl, rfl, rfl, rfl, trivial⟩ (by exact OpOK.litM (dk := kB) (J := J4) (xs := [bs.take (k % 4)]) (cs := [.slice _ (bs.take (k % 4)).length c]) Try.underlying24 sz23 zv23 (by rfl) (by rfl) (by rfl) (by simp [Value.oneCell']) hN.sat (Row.one ⟨_, c, rfl, by simp; omega, hA.take _⟩) (by simp))
            ), (by exact monoOwn (J := J4) (Φ := fun _ K u => ∃ b, u = .slice (some ⟨b, 0, none⟩) 1 1 ∧ Els (kB) K (some ⟨b, 0, none⟩) ([bs.take (k % 4)]))), (FreeR.no _), ?_⟩
        intro σ ι a27 w14 hgw14 H49 hd hap
        skip
        have hN0 := hN
        have hN := hN.ofGr ((Gr.refl _).drew.trans hgw14)
        have hNd := (New.refl (hS0.drewS)).ofGr hgw14
        obtain ⟨K6, hP6, l6, e6, hE6⟩ := (hd 6 (by decide) _ rfl).1 trivial
        replace hE6 := hE6.up (joinI_right hNd.sat hP6.sat)
        replace hNd := hNd.part hNd.le hP6 (hap.1 6 (by decide)).1
        replace hB5 := (hB5.gr (Gr.refl _).drew).next hNd
        replace hB4 := (hB4.gr (Gr.refl _).drew).next hNd
        replace hO := (hO.gr (Gr.refl _).drew).next hNd
        replace hQ := (hQ.gr (Gr.refl _).drew).next hNd
        replace hA := hA.up hNd.le
        replace hleJ1 := hleJ1.trans hNd.le
        replace hszB := Nat.le_trans hszB hgw14.size
        have hN := hN0.drew.trans hNd
        have e1 : σ 1 = _ := (hd 1 (by decide) _ rfl).1 trivial
        replace H49 := H49.sub (r := [(41, _), (46, _), (1, _), (4, _), (5, _), (6, _)]) ⟨congrArg some e1, congrArg some e6, rfl, rfl, rfl, rfl, trivial⟩
        clear hd
        clear hap
        refine s_app2 (d := kB) (d2 := kB) H49 rfl rfl Try.underlying24 nf23 rfl (by decide) (by decide) rfl hN hQ hO hne.symm hE6 rfl (by decide) hwB hszB (by omega) fun vw15 w15 hQ hO hne kw15 hN a28 H50 => ?_
        clear H49 a27
        replace hB5 := hB5.keep kw15 (by omega)
        replace hB4 := hB4.keep kw15 (by omega)
        replace hszB := Nat.le_trans hszB kw15.size
        obtain ⟨A7, c7, rfl, _, _, _⟩ := hQ.form
        refine wl1 H50 (r_fld fld26_3 rfl) rfl rfl rfl rfl fun a29 H51 => ?_
        clear H50 a28
        refine s_store H51 sz24 rfl rfl rfl hN hB5 (by simp) hgeb5 fun w16 hN hB5 ew16 H52 => ?_
        clear H51
        replace hB4 := hB4.otherE ew16 (by omega)
        replace hO := hO.otherE ew16 (by omega)
        replace hQ := hQ.otherE ew16 (by omega)
        replace hszB := sz_setB ew16 hszB
        simp only [Nat.zero_add, Nat.add_zero, Nat.reduceAdd, Nat.reduceMul, List.set_cons_zero, List.set_cons_succ, spliceL] at hB5
        clear ew16
        refine wl_end ?_
        refine bl_n ?_
        refine th_n ?_
        refine w_reg ?_
        obtain ⟨v1, v2, hB5, hO, hQ, hne⟩ : ∃ v1 v2, Box (joinI J4 K6) w16 b5 [.int .u64 key, v1, .int .i64 0, v2, .int .i64 0] 26 ∧ OwnK kB (joinI J4 K6) w16 B9 23 v1 (lkLists bs (k + 1)).1 ∧ OwnK kB (joinI J4 K6) w16 B9 23 v2 (lkLists bs (k + 1)).2 ∧ Ne2 v1 v2 := by
          first
            | (have hstep : lkLists bs (k + 1) = ((lkLists bs k).1 ++ [bs.take (k % 5)], (lkLists bs k).2) := by simp only [lkLists, lkStep]; rw [if_pos (by rw [hgk]; omega)]
               exact ⟨_, _, hB5, by rw [hstep]; exact hO, by rw [hstep]; exact hQ, hne⟩)
            | (have hstep : lkLists bs (k + 1) = ((lkLists bs k).1, (lkLists bs k).2 ++ [bs.take (k % 4)]) := by simp only [lkLists, lkStep]; rw [if_neg (by rw [hgk]; omega)]
               exact ⟨_, _, hB5, by rw [hstep]; exact hO, by rw [hstep]; exact hQ, hne.symm⟩)
        refine wl1 H52 (r_move rfl) rfl rfl rfl rfl fun a30 H53 => ?_
        clear H52 a29
        first | refine wl1 H53 (r_addk rfl rfl (by simp only [InK]; omega)) rfl rfl rfl rfl fun a31 H54 => ?_ | refine wl1 H53 (r_add rfl rfl) rfl rfl rfl rfl fun a31 H54 => ?_
        clear H53 a30
        refine wl1 H54 (r_assign rfl) rfl rfl rfl rfl fun a32 H55 => ?_
        clear H54 a31
        refine wl_end ?_
        exact th_n ⟨((k + 1, v1, v2), (joinI J4 K6)), (by show bs.length - (k + 1) < bs.length - k; omega), H55.sub ⟨rfl, rfl, rfl, rfl, trivial⟩, hleJ1, hN, by show k + 1 ≤ bs.length; omega, by show k + 1 ≤ 40; omega, hB5, hB4, hszB, hO, hQ, hne⟩
    ·
      try simp only [decide_eq_true_eq, decide_eq_false_iff_not, Bool.or_eq_true, Bool.and_eq_true, Bool.or_eq_false_iff, Bool.and_eq_false_iff, Bool.not_eq_true', Bool.not_eq_false', Int.not_lt, Int.not_le, ne_eq, Decidable.not_not] at hc16
      refine wpIn_exit ?_
      refine th_x ?_
      refine th_x ?_
      refine bl_hit ?_
      refine th_n ?_
      refine wpIn_seq ?_
      refine w_reg ?_
      have hkm : k = min bs.length 40 := by omega
      have hml : min bs.length 40 ≤ 40 := by omega
      rw [hkm] at hO hQ hB5 hne
      obtain ⟨g1, g2, _, _⟩ := lkLists_len bs (min bs.length 40)
      obtain ⟨sts, hsts⟩ : ∃ s, s = lkLists bs (min bs.length 40) := ⟨_, rfl⟩
      rw [← hsts] at hO hQ hB5 hne g1 g2
      obtain ⟨Kf, A3, c3, A4, c4, hN, hlef, hsmf, e1, hc3, hE1, e2, hc4, hE2⟩ := freeze2 hO hQ hne hN hwB
      cases e1; cases e2
      replace hB5 := hB5.same (hsmf _ (by omega))
      replace hB4 := hB4.same (hsmf _ (by omega))
      replace hA := hA.up hlef
      refine wl1 H16 (r_fld fld26_3 rfl) rfl rfl rfl rfl fun a15 H56 => ?_
      clear H16 a14
      refine wl1 H56 (r_load sc24 rfl (hB5.cell rfl)) rfl rfl rfl rfl fun a16 H57 => ?_
      clear H56 a15
      refine wl1 H57 (r_len Try.underlying24 rfl) rfl rfl rfl rfl fun a17 H58 => ?_
      clear H57 a16
      refine wl1 H58 (r_fld fld26_4 rfl) rfl rfl rfl rfl fun a18 H59 => ?_
      clear H58 a17
      refine s_store H59 sz3 rfl rfl rfl hN hB5 (by simp) hgeb5 fun w17 hN hB5 ew17 H60 => ?_
      clear H59
      replace hB4 := hB4.otherE ew17 (by omega)
      replace hO := hO.otherE ew17 (by omega)
      replace hQ := hQ.otherE ew17 (by omega)
      replace hszB := sz_setB ew17 hszB
      simp only [Nat.zero_add, Nat.add_zero, Nat.reduceAdd, Nat.reduceMul, List.set_cons_zero, List.set_cons_succ, spliceL] at hB5
      clear ew17
      refine wl_end ?_
      refine th_n ?_
      refine wpIn_seq ?_
      refine wpIn_seq ?_
      refine w_reg ?_
      refine wl1 H60 (r_move rfl) rfl rfl rfl rfl fun a19 H61 => ?_
      clear H60 a18
      refine wl1 H61 (r_len Try.underlying23 rfl) rfl rfl rfl rfl fun a20 H62 => ?_
      clear H61 a19
      refine wl1 H62 (r_gtr rfl rfl) rfl rfl rfl rfl fun a21 H63 => ?_
      clear H62 a20
      refine wl_end ?_
      refine th_n ?_
      first | refine w_if H63 rfl (fun hc55 => ?_) (fun hc55 => ?_) | refine w_cond H63 rfl (fun hc55 => ?_) (fun hc55 => ?_)
      ·
        try simp only [decide_eq_true_eq, decide_eq_false_iff_not, Bool.or_eq_true, Bool.and_eq_true, Bool.or_eq_false_iff, Bool.and_eq_false_iff, Bool.not_eq_true', Bool.not_eq_false', Int.not_lt, Int.not_le, ne_eq, Decidable.not_not] at hc55
        have hl2 : 2 < bs.length := by omega
        obtain ⟨bA, oA, hAe⟩ := hA.form (by omega)
        cases hAe
        have h0 : 0 < bs.length := by omega
        have h1 : 1 < bs.length := by omega
        have h2 := hl2
        have hy0 := (hA.num (j := 0) h0).2
        have hy1 := (hA.num (j := 1) h1).2
        have hy2 := (hA.num (j := 2) h2).2
        simp only [InK] at hy0 hy1 hy2
        refine wpIn_seq ?_
        refine w_reg ?_
        refine wl1 H63 (r_move rfl) rfl rfl rfl rfl fun a22 H64 => ?_
        clear H63 a21
        refine wl1 H64 (r_idx Try.underlying23 sz5 rfl rfl (i := 0) rfl (by omega)) rfl rfl rfl rfl fun a23 H65 => ?_
        clear H64 a22
        refine wl1 H65 (r_load sc5 rfl (hN.sat.cell (hA.num (j := 0) h0).1)) rfl rfl rfl rfl fun a24 H66 => ?_
        clear H65 a23
        first | refine wl1 H66 (r_convk Try.underlying5 Try.underlying3 rfl (by simp only [InK]; omega)) rfl rfl rfl rfl fun a25 H67 => ?_ | refine wl1 H66 (r_conv Try.underlying5 Try.underlying3 rfl) rfl rfl rfl rfl fun a25 H67 => ?_
        clear H66 a24
        refine wl1 H67 (r_fld fld26_2 rfl) rfl rfl rfl rfl fun a26 H68 => ?_
        clear H67 a25
        refine s_store H68 sz3 rfl rfl rfl hN hB5 (by simp) hgeb5 fun w18 hN hB5 ew18 H69 => ?_
        clear H68
        replace hB4 := hB4.otherE ew18 (by omega)
        replace hO := hO.otherE ew18 (by omega)
        replace hQ := hQ.otherE ew18 (by omega)
        replace hszB := sz_setB ew18 hszB
        simp only [Nat.zero_add, Nat.add_zero, Nat.reduceAdd, Nat.reduceMul, List.set_cons_zero, List.set_cons_succ, spliceL] at hB5
        clear ew18
        refine wl_end ?_
        refine th_n ?_
        refine wpIn_seq ?_
        have hS0 := hN.sat
        have hNsz11 := hN.gr.size
        refine w_drawE (m := 6) (l0 := [(1, _), (4, _), (5, _)]) hfol H69 ⟨rfl, rfl, rfl, trivial⟩ (by kernel_rfl) ?_
        refine ⟨_, false, (fun σ ι w1 hg hd hon => by
            exact OpOK.sub (r := [(1, _), (4, _), (5, _)]) ⟨rfl, rfl, rfl, trivial⟩ (by
              exact OpOK.eq (r_fld fld26_4 rfl))
            ), (fun _ _ _ _ _ _ h => h), (FreeR.no _), ?_⟩
        refine ⟨_, false, (fun σ ι w1 hg hd hon => by
            have hN := hN.ofGr ((Gr.refl _).drew.trans hg)
            have hB5 := hB5.gr ((Gr.refl _).drew.trans hg)
            have hB4 := hB4.gr ((Gr.refl _).drew.trans hg)
            have hO := hO.gr ((Gr.refl _).drew.trans hg)
            have hQ := hQ.gr ((Gr.refl _).drew.trans hg)
            have f0 := hd 0 (by decide) _ rfl
            have e0 : σ 0 = _ := f0.1 trivial
            exact OpOK.sub (r := [(61, _), (1, _), (4, _), (5, _)]) ⟨congrArg some e0, rfl, rfl, rfl, trivial⟩ (by
              exact OpOK.eq (r_load sc3 rfl (hB5.cell rfl)))
            ), (fun _ _ _ _ _ _ h => h), (FreeR.no _), ?_⟩
        refine ⟨_, false, (fun σ ι w1 hg hd hon => by
            exact OpOK.sub (r := [(1, _), (4, _), (5, _)]) ⟨rfl, rfl, rfl, trivial⟩ (by
              exact OpOK.eq (r_move rfl))
            ), (fun _ _ _ _ _ _ h => h), (FreeR.no _), ?_⟩
        refine ⟨_, false, (fun σ ι w1 hg hd hon => by
            have f2 := hd 2 (by decide) _ rfl
            have e2 : σ 2 = _ := f2.1 trivial
            exact OpOK.sub (r := [(63, _), (1, _), (4, _), (5, _)]) ⟨congrArg some e2, rfl, rfl, rfl, trivial⟩ (by
              exact OpOK.eq (r_idx Try.underlying23 sz5 rfl rfl (i := 1) rfl (by omega)))
            ), (fun _ _ _ _ _ _ h => h), (FreeR.no _), ?_⟩
        refine ⟨_, false, (fun σ ι w1 hg hd hon => by
            have hN := hN.ofGr ((Gr.refl _).drew.trans hg)
            have hB5 := hB5.gr ((Gr.refl _).drew.trans hg)
            have hB4 := hB4.gr ((Gr.refl _).drew.trans hg)
            have hO := hO.gr ((Gr.refl _).drew.trans hg)
            have hQ := hQ.gr ((Gr.refl _).drew.trans hg)
            have f3 := hd 3 (by decide) _ rfl
            have e3 : σ 3 = _ := f3.1 trivial
            exact OpOK.sub (r := [(64, _), (1, _), (4, _), (5, _)]) ⟨congrArg some e3, rfl, rfl, rfl, trivial⟩ (by
              exact OpOK.eq (r_load sc5 rfl (hN.sat.cell (hA.num (j := 1) h1).1)))
            ), (fun _ _ _ _ _ _ h => h), (FreeR.no _), ?_⟩
        refine ⟨_, false, (fun σ ι w1 hg hd hon => by
            have f4 := hd 4 (by decide) _ rfl
            have e4 : σ 4 = _ := f4.1 trivial
            exact OpOK.sub (r := [(65, _), (1, _), (4, _), (5, _)]) ⟨congrArg some e4, rfl, rfl, rfl, trivial⟩ (by
              first | exact OpOK.eq (r_convk Try.underlying5 Try.underlying3 rfl (by simp only [InK]; omega)) | exact OpOK.eq (r_conv Try.underlying5 Try.underlying3 rfl))
            ), (fun _ _ _ _ _ _ h => h), (FreeR.no _), ?_⟩
        intro σ ι a27 w20 hgw20 H70 hd hap
        skip
        have hN0 := hN
        have hN := hN.ofGr ((Gr.refl _).drew.trans hgw20)
        replace hB5 := hB5.gr ((Gr.refl _).drew.trans hgw20)
        replace hB4 := hB4.gr ((Gr.refl _).drew.trans hgw20)
        replace hO := hO.gr ((Gr.refl _).drew.trans hgw20)
        replace hQ := hQ.gr ((Gr.refl _).drew.trans hgw20)
        replace hszB := Nat.le_trans hszB ((Gr.refl _).drew.trans hgw20).size
        have e1 : σ 1 = _ := (hd 1 (by decide) _ rfl).1 trivial
        have e5 : σ 5 = _ := (hd 5 (by decide) _ rfl).1 trivial
        replace H70 := H70.sub (r := [(62, _), (66, _), (1, _), (4, _), (5, _)]) ⟨congrArg some e1, congrArg some e5, rfl, rfl, rfl, trivial⟩
        clear hd
        clear hap
        first | refine wl1 H70 (r_addk rfl rfl (by simp only [InK]; omega)) rfl rfl rfl rfl fun a28 H71 => ?_ | refine wl1 H70 (r_add rfl rfl) rfl rfl rfl rfl fun a28 H71 => ?_
        clear H70 a27
        refine wl1 H71 (r_fld fld26_4 rfl) rfl rfl rfl rfl fun a29 H72 => ?_
        clear H71 a28
        refine s_store H72 sz3 rfl rfl rfl hN hB5 (by simp) hgeb5 fun w21 hN hB5 ew21 H73 => ?_
        clear H72
        replace hB4 := hB4.otherE ew21 (by omega)
        replace hO := hO.otherE ew21 (by omega)
        replace hQ := hQ.otherE ew21 (by omega)
        replace hszB := sz_setB ew21 hszB
        simp only [Nat.zero_add, Nat.add_zero, Nat.reduceAdd, Nat.reduceMul, List.set_cons_zero, List.set_cons_succ, spliceL] at hB5
        clear ew21
        refine wl_end ?_
        refine th_n ?_
        refine wpIn_seq ?_
        refine w_reg ?_
        refine wl1 H73 (r_move rfl) rfl rfl rfl rfl fun a30 H74 => ?_
        clear H73 a29
        refine wl1 H74 (r_idx Try.underlying23 sz5 rfl rfl (i := 2) rfl (by omega)) rfl rfl rfl rfl fun a31 H75 => ?_
        clear H74 a30
        refine wl1 H75 (r_load sc5 rfl (hN.sat.cell (hA.num (j := 2) h2).1)) rfl rfl rfl rfl fun a32 H76 => ?_
        clear H75 a31
        refine wl1 H76 (r_remk rfl rfl (by omega) (by omega)) rfl rfl rfl rfl fun a33 H77 => ?_
        clear H76 a32
        refine wl1 H77 (r_eql rfl rfl) rfl rfl rfl rfl fun a34 H78 => ?_
        clear H77 a33
        refine wl_end ?_
        refine th_n ?_
        first | refine w_if H78 rfl (fun hc73 => ?_) (fun hc73 => ?_) | refine w_cond H78 rfl (fun hc73 => ?_) (fun hc73 => ?_)
        ·
          try simp only [decide_eq_true_eq, decide_eq_false_iff_not, Bool.or_eq_true, Bool.and_eq_true, Bool.or_eq_false_iff, Bool.and_eq_false_iff, Bool.not_eq_true', Bool.not_eq_false', Int.not_lt, Int.not_le, ne_eq, Decidable.not_not] at hc73
          refine wpIn_seq ?_
          have hS0 := hN.sat
          have hNsz13 := hN.gr.size
          refine w_drawE (m := 9) (l0 := [(1, _), (4, _), (5, _)]) hfol H78 ⟨rfl, rfl, rfl, trivial⟩ (by kernel_rfl) ?_
          refine ⟨_, false, (fun σ ι w1 hg hd hon => by
              exact OpOK.sub (r := [(1, _), (4, _), (5, _)]) ⟨rfl, rfl, rfl, trivial⟩ (by
                exact OpOK.eq (r_fld fld26_1 rfl))
              ), (fun _ _ _ _ _ _ h => h), (FreeR.no _), ?_⟩
          refine ⟨_, false, (fun σ ι w1 hg hd hon => by
              have hN := hN.ofGr ((Gr.refl _).drew.trans hg)
              have hB5 := hB5.gr ((Gr.refl _).drew.trans hg)
              have hB4 := hB4.gr ((Gr.refl _).drew.trans hg)
              have hO := hO.gr ((Gr.refl _).drew.trans hg)
              have hQ := hQ.gr ((Gr.refl _).drew.trans hg)
              have f0 := hd 0 (by decide) _ rfl
              have e0 : σ 0 = _ := f0.1 trivial
              exact OpOK.sub (r := [(74, _), (1, _), (4, _), (5, _)]) ⟨congrArg some e0, rfl, rfl, rfl, trivial⟩ (by
                exact OpOK.eq (r_load sc24 rfl (hB5.cell rfl)))
              ), (fun _ _ _ _ _ _ h => h), (FreeR.no _), ?_⟩
          refine ⟨_, false, (fun σ ι w1 hg hd hon => by
              have f1 := hd 1 (by decide) _ rfl
              have e1 : σ 1 = _ := f1.1 trivial
              exact OpOK.sub (r := [(75, _), (1, _), (4, _), (5, _)]) ⟨congrArg some e1, rfl, rfl, rfl, trivial⟩ (by
                exact OpOK.eq (r_len Try.underlying24 rfl))
              ), (fun _ _ _ _ _ _ h => h), (FreeR.no _), ?_⟩
          refine ⟨_, false, (fun σ ι w1 hg hd hon => by
              have f2 := hd 2 (by decide) _ rfl
              have e2 : σ 2 = _ := f2.1 trivial
              exact OpOK.sub (r := [(76, _), (1, _), (4, _), (5, _)]) ⟨congrArg some e2, rfl, rfl, rfl, trivial⟩ (by
                first | exact OpOK.eq (r_subk rfl rfl (by simp only [InK]; omega)) | exact OpOK.eq (r_sub rfl rfl))
              ), (fun _ _ _ _ _ _ h => h), (FreeR.no _), ?_⟩
          refine ⟨_, false, (fun σ ι w1 hg hd hon => by
              exact OpOK.sub (r := [(1, _), (4, _), (5, _)]) ⟨rfl, rfl, rfl, trivial⟩ (by
                exact OpOK.eq (r_move rfl))
              ), (fun _ _ _ _ _ _ h => h), (FreeR.no _), ?_⟩
          refine ⟨_, false, (fun σ ι w1 hg hd hon => by
              have f4 := hd 4 (by decide) _ rfl
              have e4 : σ 4 = _ := f4.1 trivial
              exact OpOK.sub (r := [(78, _), (1, _), (4, _), (5, _)]) ⟨congrArg some e4, rfl, rfl, rfl, trivial⟩ (by
                exact OpOK.eq (r_idx Try.underlying23 sz5 rfl rfl (i := 0) rfl (by omega)))
              ), (fun _ _ _ _ _ _ h => h), (FreeR.no _), ?_⟩
          refine ⟨_, false, (fun σ ι w1 hg hd hon => by
              have hN := hN.ofGr ((Gr.refl _).drew.trans hg)
              have hB5 := hB5.gr ((Gr.refl _).drew.trans hg)
              have hB4 := hB4.gr ((Gr.refl _).drew.trans hg)
              have hO := hO.gr ((Gr.refl _).drew.trans hg)
              have hQ := hQ.gr ((Gr.refl _).drew.trans hg)
              have f5 := hd 5 (by decide) _ rfl
              have e5 : σ 5 = _ := f5.1 trivial
              exact OpOK.sub (r := [(79, _), (1, _), (4, _), (5, _)]) ⟨congrArg some e5, rfl, rfl, rfl, trivial⟩ (by
                exact OpOK.eq (r_load sc5 rfl (hN.sat.cell (hA.num (j := 0) h0).1)))
              ), (fun _ _ _ _ _ _ h => h), (FreeR.no _), ?_⟩
          refine ⟨_, false, (fun σ ι w1 hg hd hon => by
              have f6 := hd 6 (by decide) _ rfl
              have e6 : σ 6 = _ := f6.1 trivial
              exact OpOK.sub (r := [(80, _), (1, _), (4, _), (5, _)]) ⟨congrArg some e6, rfl, rfl, rfl, trivial⟩ (by
                exact OpOK.eq (r_remk rfl rfl (by omega) (by omega)))
              ), (fun _ _ _ _ _ _ h => h), (FreeR.no _), ?_⟩
          refine ⟨_, false, (fun σ ι w1 hg hd hon => by
              have f7 := hd 7 (by decide) _ rfl
              have e7 : σ 7 = _ := f7.1 trivial
              exact OpOK.sub (r := [(81, _), (1, _), (4, _), (5, _)]) ⟨congrArg some e7, rfl, rfl, rfl, trivial⟩ (by
                first | exact OpOK.eq (r_convk Try.underlying5 Try.underlying3 rfl (by simp only [InK]; omega)) | exact OpOK.eq (r_conv Try.underlying5 Try.underlying3 rfl))
              ), (fun _ _ _ _ _ _ h => h), (FreeR.no _), ?_⟩
          intro σ ι a35 w23 hgw23 H79 hd hap
          skip
          have hN0 := hN
          have hN := hN.ofGr ((Gr.refl _).drew.trans hgw23)
          replace hB5 := hB5.gr ((Gr.refl _).drew.trans hgw23)
          replace hB4 := hB4.gr ((Gr.refl _).drew.trans hgw23)
          replace hO := hO.gr ((Gr.refl _).drew.trans hgw23)
          replace hQ := hQ.gr ((Gr.refl _).drew.trans hgw23)
          replace hszB := Nat.le_trans hszB ((Gr.refl _).drew.trans hgw23).size
          have e3 : σ 3 = _ := (hd 3 (by decide) _ rfl).1 trivial
          have e8 : σ 8 = _ := (hd 8 (by decide) _ rfl).1 trivial
          replace H79 := H79.sub (r := [(77, _), (82, _), (1, _), (4, _), (5, _)]) ⟨congrArg some e3, congrArg some e8, rfl, rfl, rfl, trivial⟩
          clear hd
          clear hap
          first | refine wl1 H79 (r_subk rfl rfl (by simp only [InK]; omega)) rfl rfl rfl rfl fun a36 H80 => ?_ | refine wl1 H79 (r_sub rfl rfl) rfl rfl rfl rfl fun a36 H80 => ?_
          clear H79 a35
          refine wl1 H80 (r_fld fld26_2 rfl) rfl rfl rfl rfl fun a37 H81 => ?_
          clear H80 a36
          refine s_store H81 sz3 rfl rfl rfl hN hB5 (by simp) hgeb5 fun w24 hN hB5 ew24 H82 => ?_
          clear H81
          replace hB4 := hB4.otherE ew24 (by omega)
          replace hO := hO.otherE ew24 (by omega)
          replace hQ := hQ.otherE ew24 (by omega)
          replace hszB := sz_setB ew24 hszB
          simp only [Nat.zero_add, Nat.add_zero, Nat.reduceAdd, Nat.reduceMul, List.set_cons_zero, List.set_cons_succ, spliceL] at hB5
          clear ew24
          refine wl_end ?_
          refine th_n ?_
          refine w_reg ?_
          refine wl1 H82 (r_move rfl) rfl rfl rfl rfl fun a38 H83 => ?_
          clear H82 a37
          refine wl1 H83 (r_idx Try.underlying23 sz5 rfl rfl (i := 1) rfl (by omega)) rfl rfl rfl rfl fun a39 H84 => ?_
          clear H83 a38
          refine wl1 H84 (r_load sc5 rfl (hN.sat.cell (hA.num (j := 1) h1).1)) rfl rfl rfl rfl fun a40 H85 => ?_
          clear H84 a39
          refine wl1 H85 (r_remk rfl rfl (by omega) (by omega)) rfl rfl rfl rfl fun a41 H86 => ?_
          clear H85 a40
          first | refine wl1 H86 (r_convk Try.underlying5 Try.underlying3 rfl (by simp only [InK]; omega)) rfl rfl rfl rfl fun a42 H87 => ?_ | refine wl1 H86 (r_conv Try.underlying5 Try.underlying3 rfl) rfl rfl rfl rfl fun a42 H87 => ?_
          clear H86 a41
          first | refine wl1 H87 (r_subk rfl rfl (by simp only [InK]; omega)) rfl rfl rfl rfl fun a43 H88 => ?_ | refine wl1 H87 (r_sub rfl rfl) rfl rfl rfl rfl fun a43 H88 => ?_
          clear H87 a42
          refine wl1 H88 (r_fld fld26_4 rfl) rfl rfl rfl rfl fun a44 H89 => ?_
          clear H88 a43
          refine s_store H89 sz3 rfl rfl rfl hN hB5 (by simp) hgeb5 fun w25 hN hB5 ew25 H90 => ?_
          clear H89
          replace hB4 := hB4.otherE ew25 (by omega)
          replace hO := hO.otherE ew25 (by omega)
          replace hQ := hQ.otherE ew25 (by omega)
          replace hszB := sz_setB ew25 hszB
          simp only [Nat.zero_add, Nat.add_zero, Nat.reduceAdd, Nat.reduceMul, List.set_cons_zero, List.set_cons_succ, spliceL] at hB5
          clear ew25
          refine wl_end ?_
          refine th_n ?_
          refine wpIn_seq ?_
          refine w_reg ?_
          refine wl1 H90 (r_loadA (cs := [_, _, _, _, _]) ag26 rfl hB5.agg) rfl rfl rfl rfl fun a45 H91 => ?_
          clear H90 a44
          refine s_storeA (vs := [_, _, _, _, _]) H91 sz26 (by simp) (by simp [Value.oneCell']) rfl rfl hN hB4 (by simp) hgeb4 fun w26 hN hB4 ew26 H92 => ?_
          clear H91
          replace hB5 := hB5.otherE ew26 (by omega)
          replace hO := hO.otherE ew26 (by omega)
          replace hQ := hQ.otherE ew26 (by omega)
          replace hszB := sz_setB ew26 hszB
          simp only [Nat.zero_add, Nat.add_zero, Nat.reduceAdd, Nat.reduceMul, List.set_cons_zero, List.set_cons_succ, spliceL] at hB4
          clear ew26
          refine wl_end ?_
          refine th_n ?_
          refine wpIn_ret ?_
          refine fin_r H92 (resC rfl H92 rfl hB4 ag26) ?_
          first
            | (have hg : glink key bs = ⟨key, sts.1, (1000000000 : Int) - sts.1.length - bs[0] % 2, sts.2, (1000000000 : Int) - bs[1] % 2⟩ := by unfold glink; rw [← hsts]; simp only [gd bs h0, gd bs h1, gd bs h2]; rw [if_pos (by omega), if_pos (by omega)]
               refine ⟨Kf, hN, A1, c1, A2, c2, ?_, ?_⟩
               · rw [hg]
               · rw [hg]; exact ⟨hkey, by show InK .i64 (_ : Int); simp only [InK]; omega, by show InK .i64 (_ : Int); simp only [InK]; omega, hc3, hE1, hc4, hE2⟩)
            | (have hg : glink key bs = ⟨key, sts.1, bs[0], sts.2, sts.2.length + bs[1]⟩ := by unfold glink; rw [← hsts]; simp only [gd bs h0, gd bs h1, gd bs h2]; rw [if_pos (by omega), if_neg (by omega)]
               refine ⟨Kf, hN, A1, c1, A2, c2, ?_, ?_⟩
               · rw [hg]
               · rw [hg]; exact ⟨hkey, by show InK .i64 (_ : Int); simp only [InK]; omega, by show InK .i64 (_ : Int); simp only [InK]; omega, hc3, hE1, hc4, hE2⟩)
            | (have hg : glink key bs = ⟨key, sts.1, 0, sts.2, sts.2.length⟩ := by unfold glink; rw [← hsts]; simp only []; rw [if_neg (by omega)]
               refine ⟨Kf, hN, A1, c1, A2, c2, ?_, ?_⟩
               · rw [hg]
               · rw [hg]; exact ⟨hkey, by show InK .i64 (_ : Int); simp only [InK]; omega, by show InK .i64 (_ : Int); simp only [InK]; omega, hc3, hE1, hc4, hE2⟩)
        ·
          try simp only [decide_eq_true_eq, decide_eq_false_iff_not, Bool.or_eq_true, Bool.and_eq_true, Bool.or_eq_false_iff, Bool.and_eq_false_iff, Bool.not_eq_true', Bool.not_eq_false', Int.not_lt, Int.not_le, ne_eq, Decidable.not_not] at hc73
          refine wpIn_skip ?_
          refine th_n ?_
          refine wpIn_seq ?_
          refine w_reg ?_
          refine wl1 H78 (r_loadA (cs := [_, _, _, _, _]) ag26 rfl hB5.agg) rfl rfl rfl rfl fun a35 H93 => ?_
          clear H78 a34
          refine s_storeA (vs := [_, _, _, _, _]) H93 sz26 (by simp) (by simp [Value.oneCell']) rfl rfl hN hB4 (by simp) hgeb4 fun w27 hN hB4 ew27 H94 => ?_
          clear H93
          replace hB5 := hB5.otherE ew27 (by omega)
          replace hO := hO.otherE ew27 (by omega)
          replace hQ := hQ.otherE ew27 (by omega)
          replace hszB := sz_setB ew27 hszB
          simp only [Nat.zero_add, Nat.add_zero, Nat.reduceAdd, Nat.reduceMul, List.set_cons_zero, List.set_cons_succ, spliceL] at hB4
          clear ew27
          refine wl_end ?_
          refine th_n ?_
          refine wpIn_ret ?_
          refine fin_r H94 (resC rfl H94 rfl hB4 ag26) ?_
          first
            | (have hg : glink key bs = ⟨key, sts.1, (1000000000 : Int) - sts.1.length - bs[0] % 2, sts.2, (1000000000 : Int) - bs[1] % 2⟩ := by unfold glink; rw [← hsts]; simp only [gd bs h0, gd bs h1, gd bs h2]; rw [if_pos (by omega), if_pos (by omega)]
               refine ⟨Kf, hN, A1, c1, A2, c2, ?_, ?_⟩
               · rw [hg]
               · rw [hg]; exact ⟨hkey, by show InK .i64 (_ : Int); simp only [InK]; omega, by show InK .i64 (_ : Int); simp only [InK]; omega, hc3, hE1, hc4, hE2⟩)
            | (have hg : glink key bs = ⟨key, sts.1, bs[0], sts.2, sts.2.length + bs[1]⟩ := by unfold glink; rw [← hsts]; simp only [gd bs h0, gd bs h1, gd bs h2]; rw [if_pos (by omega), if_neg (by omega)]
               refine ⟨Kf, hN, A1, c1, A2, c2, ?_, ?_⟩
               · rw [hg]
               · rw [hg]; exact ⟨hkey, by show InK .i64 (_ : Int); simp only [InK]; omega, by show InK .i64 (_ : Int); simp only [InK]; omega, hc3, hE1, hc4, hE2⟩)
            | (have hg : glink key bs = ⟨key, sts.1, 0, sts.2, sts.2.length⟩ := by unfold glink; rw [← hsts]; simp only []; rw [if_neg (by omega)]
               refine ⟨Kf, hN, A1, c1, A2, c2, ?_, ?_⟩
               · rw [hg]
               · rw [hg]; exact ⟨hkey, by show InK .i64 (_ : Int); simp only [InK]; omega, by show InK .i64 (_ : Int); simp only [InK]; omega, hc3, hE1, hc4, hE2⟩)
      ·
        try simp only [decide_eq_true_eq, decide_eq_false_iff_not, Bool.or_eq_true, Bool.and_eq_true, Bool.or_eq_false_iff, Bool.and_eq_false_iff, Bool.not_eq_true', Bool.not_eq_false', Int.not_lt, Int.not_le, ne_eq, Decidable.not_not] at hc55
        refine wpIn_skip ?_
        refine th_n ?_
        refine wpIn_seq ?_
        refine w_reg ?_
        refine wl1 H63 (r_loadA (cs := [_, _, _, _, _]) ag26 rfl hB5.agg) rfl rfl rfl rfl fun a22 H95 => ?_
        clear H63 a21
        refine s_storeA (vs := [_, _, _, _, _]) H95 sz26 (by simp) (by simp [Value.oneCell']) rfl rfl hN hB4 (by simp) hgeb4 fun w28 hN hB4 ew28 H96 => ?_
        clear H95
        replace hB5 := hB5.otherE ew28 (by omega)
        replace hO := hO.otherE ew28 (by omega)
        replace hQ := hQ.otherE ew28 (by omega)
        replace hszB := sz_setB ew28 hszB
        simp only [Nat.zero_add, Nat.add_zero, Nat.reduceAdd, Nat.reduceMul, List.set_cons_zero, List.set_cons_succ, spliceL] at hB4
        clear ew28
        refine wl_end ?_
        refine th_n ?_
        refine wpIn_ret ?_
        refine fin_r H96 (resC rfl H96 rfl hB4 ag26) ?_
        first
          | (have hg : glink key bs = ⟨key, sts.1, (1000000000 : Int) - sts.1.length - bs[0] % 2, sts.2, (1000000000 : Int) - bs[1] % 2⟩ := by unfold glink; rw [← hsts]; simp only [gd bs h0, gd bs h1, gd bs h2]; rw [if_pos (by omega), if_pos (by omega)]
             refine ⟨Kf, hN, A1, c1, A2, c2, ?_, ?_⟩
             · rw [hg]
             · rw [hg]; exact ⟨hkey, by show InK .i64 (_ : Int); simp only [InK]; omega, by show InK .i64 (_ : Int); simp only [InK]; omega, hc3, hE1, hc4, hE2⟩)
          | (have hg : glink key bs = ⟨key, sts.1, bs[0], sts.2, sts.2.length + bs[1]⟩ := by unfold glink; rw [← hsts]; simp only [gd bs h0, gd bs h1, gd bs h2]; rw [if_pos (by omega), if_neg (by omega)]
             refine ⟨Kf, hN, A1, c1, A2, c2, ?_, ?_⟩
             · rw [hg]
             · rw [hg]; exact ⟨hkey, by show InK .i64 (_ : Int); simp only [InK]; omega, by show InK .i64 (_ : Int); simp only [InK]; omega, hc3, hE1, hc4, hE2⟩)
          | (have hg : glink key bs = ⟨key, sts.1, 0, sts.2, sts.2.length⟩ := by unfold glink; rw [← hsts]; simp only []; rw [if_neg (by omega)]
             refine ⟨Kf, hN, A1, c1, A2, c2, ?_, ?_⟩
             · rw [hg]
             · rw [hg]; exact ⟨hkey, by show InK .i64 (_ : Int); simp only [InK]; omega, by show InK .i64 (_ : Int); simp only [InK]; omega, hc3, hE1, hc4, hE2⟩)
  ·
    clear H12
    try simp only [decide_eq_true_eq, decide_eq_false_iff_not, Bool.or_eq_true, Bool.and_eq_true, Bool.or_eq_false_iff, Bool.and_eq_false_iff, Bool.not_eq_true', Bool.not_eq_false', Int.not_lt, Int.not_le, ne_eq, Decidable.not_not] at hg3_4
    refine wl_off (d := 13) H13 rfl rfl rfl rfl rfl rfl fun a12 H97 => ?_
    clear H13 a11
    refine wl_off (d := 13) H97 rfl rfl rfl rfl rfl rfl fun a13 H98 => ?_
    clear H97 a12
    refine wl1 H98 (r_pick_f rfl rfl) rfl rfl rfl rfl fun a14 H99 => ?_
    clear H98 a13
    refine wl_end ?_
    refine th_n ?_
    refine w_ff H99 rfl rfl ?_
    refine wpIn_exit ?_
    refine th_x ?_
    refine th_x ?_
    refine bl_hit ?_
    refine th_n ?_
    refine wpIn_seq ?_
    refine w_reg ?_
    have hkm : k = min bs.length 40 := by omega
    have hml : min bs.length 40 ≤ 40 := by omega
    rw [hkm] at hO hQ hB5 hne
    obtain ⟨g1, g2, _, _⟩ := lkLists_len bs (min bs.length 40)
    obtain ⟨sts, hsts⟩ : ∃ s, s = lkLists bs (min bs.length 40) := ⟨_, rfl⟩
    rw [← hsts] at hO hQ hB5 hne g1 g2
    obtain ⟨Kf, A3, c3, A4, c4, hN, hlef, hsmf, e1, hc3, hE1, e2, hc4, hE2⟩ := freeze2 hO hQ hne hN hwB
    cases e1; cases e2
    replace hB5 := hB5.same (hsmf _ (by omega))
    replace hB4 := hB4.same (hsmf _ (by omega))
    replace hA := hA.up hlef
    refine wl1 H99 (r_fld fld26_3 rfl) rfl rfl rfl rfl fun a15 H100 => ?_
    clear H99 a14
    refine wl1 H100 (r_load sc24 rfl (hB5.cell rfl)) rfl rfl rfl rfl fun a16 H101 => ?_
    clear H100 a15
    refine wl1 H101 (r_len Try.underlying24 rfl) rfl rfl rfl rfl fun a17 H102 => ?_
    clear H101 a16
    refine wl1 H102 (r_fld fld26_4 rfl) rfl rfl rfl rfl fun a18 H103 => ?_
    clear H102 a17
    refine s_store H103 sz3 rfl rfl rfl hN hB5 (by simp) hgeb5 fun w29 hN hB5 ew29 H104 => ?_
    clear H103
    replace hB4 := hB4.otherE ew29 (by omega)
    replace hO := hO.otherE ew29 (by omega)
    replace hQ := hQ.otherE ew29 (by omega)
    replace hszB := sz_setB ew29 hszB
    simp only [Nat.zero_add, Nat.add_zero, Nat.reduceAdd, Nat.reduceMul, List.set_cons_zero, List.set_cons_succ, spliceL] at hB5
    clear ew29
    refine wl_end ?_
    refine th_n ?_
    refine wpIn_seq ?_
    refine wpIn_seq ?_
    refine w_reg ?_
    refine wl1 H104 (r_move rfl) rfl rfl rfl rfl fun a19 H105 => ?_
    clear H104 a18
    refine wl1 H105 (r_len Try.underlying23 rfl) rfl rfl rfl rfl fun a20 H106 => ?_
    clear H105 a19
    refine wl1 H106 (r_gtr rfl rfl) rfl rfl rfl rfl fun a21 H107 => ?_
    clear H106 a20
    refine wl_end ?_
    refine th_n ?_
    first | refine w_if H107 rfl (fun hc55 => ?_) (fun hc55 => ?_) | refine w_cond H107 rfl (fun hc55 => ?_) (fun hc55 => ?_)
    ·
      try simp only [decide_eq_true_eq, decide_eq_false_iff_not, Bool.or_eq_true, Bool.and_eq_true, Bool.or_eq_false_iff, Bool.and_eq_false_iff, Bool.not_eq_true', Bool.not_eq_false', Int.not_lt, Int.not_le, ne_eq, Decidable.not_not] at hc55
      have hl2 : 2 < bs.length := by omega
      obtain ⟨bA, oA, hAe⟩ := hA.form (by omega)
      cases hAe
      have h0 : 0 < bs.length := by omega
      have h1 : 1 < bs.length := by omega
      have h2 := hl2
      have hy0 := (hA.num (j := 0) h0).2
      have hy1 := (hA.num (j := 1) h1).2
      have hy2 := (hA.num (j := 2) h2).2
      simp only [InK] at hy0 hy1 hy2
      refine wpIn_seq ?_
      refine w_reg ?_
      refine wl1 H107 (r_move rfl) rfl rfl rfl rfl fun a22 H108 => ?_
      clear H107 a21
      refine wl1 H108 (r_idx Try.underlying23 sz5 rfl rfl (i := 0) rfl (by omega)) rfl rfl rfl rfl fun a23 H109 => ?_
      clear H108 a22
      refine wl1 H109 (r_load sc5 rfl (hN.sat.cell (hA.num (j := 0) h0).1)) rfl rfl rfl rfl fun a24 H110 => ?_
      clear H109 a23
      first | refine wl1 H110 (r_convk Try.underlying5 Try.underlying3 rfl (by simp only [InK]; omega)) rfl rfl rfl rfl fun a25 H111 => ?_ | refine wl1 H110 (r_conv Try.underlying5 Try.underlying3 rfl) rfl rfl rfl rfl fun a25 H111 => ?_
      clear H110 a24
      refine wl1 H111 (r_fld fld26_2 rfl) rfl rfl rfl rfl fun a26 H112 => ?_
      clear H111 a25
      refine s_store H112 sz3 rfl rfl rfl hN hB5 (by simp) hgeb5 fun w30 hN hB5 ew30 H113 => ?_
      clear H112
      replace hB4 := hB4.otherE ew30 (by omega)
      replace hO := hO.otherE ew30 (by omega)
      replace hQ := hQ.otherE ew30 (by omega)
      replace hszB := sz_setB ew30 hszB
      simp only [Nat.zero_add, Nat.add_zero, Nat.reduceAdd, Nat.reduceMul, List.set_cons_zero, List.set_cons_succ, spliceL] at hB5
      clear ew30
      refine wl_end ?_
      refine th_n ?_
      refine wpIn_seq ?_
      have hS0 := hN.sat
      have hNsz11 := hN.gr.size
      refine w_drawE (m := 6) (l0 := [(1, _), (4, _), (5, _)]) hfol H113 ⟨rfl, rfl, rfl, trivial⟩ (by kernel_rfl) ?_
      refine ⟨_, false, (fun σ ι w1 hg hd hon => by
          exact OpOK.sub (r := [(1, _), (4, _), (5, _)]) ⟨rfl, rfl, rfl, trivial⟩ (by
            exact OpOK.eq (r_fld fld26_4 rfl))
          ), (fun _ _ _ _ _ _ h => h), (FreeR.no _), ?_⟩
      refine ⟨_, false, (fun σ ι w1 hg hd hon => by
          have hN := hN.ofGr ((Gr.refl _).drew.trans hg)
          have hB5 := hB5.gr ((Gr.refl _).drew.trans hg)
          have hB4 := hB4.gr ((Gr.refl _).drew.trans hg)
          have hO := hO.gr ((Gr.refl _).drew.trans hg)
          have hQ := hQ.gr ((Gr.refl _).drew.trans hg)
          have f0 := hd 0 (by decide) _ rfl
          have e0 : σ 0 = _ := f0.1 trivial
          exact OpOK.sub (r := [(61, _), (1, _), (4, _), (5, _)]) ⟨congrArg some e0, rfl, rfl, rfl, trivial⟩ (by
            exact OpOK.eq (r_load sc3 rfl (hB5.cell rfl)))
          ), (fun _ _ _ _ _ _ h => h), (FreeR.no _), ?_⟩
      refine ⟨_, false, (fun σ ι w1 hg hd hon => by
          exact OpOK.sub (r := [(1, _), (4, _), (5, _)]) ⟨rfl, rfl, rfl, trivial⟩ (by
            exact OpOK.eq (r_move rfl))
          ), (fun _ _ _ _ _ _ h => h), (FreeR.no _), ?_⟩
      refine ⟨_, false, (fun σ ι w1 hg hd hon => by
          have f2 := hd 2 (by decide) _ rfl
          have e2 : σ 2 = _ := f2.1 trivial
          exact OpOK.sub (r := [(63, _), (1, _), (4, _), (5, _)]) ⟨congrArg some e2, rfl, rfl, rfl, trivial⟩ (by
            exact OpOK.eq (r_idx Try.underlying23 sz5 rfl rfl (i := 1) rfl (by omega)))
          ), (fun _ _ _ _ _ _ h => h), (FreeR.no _), ?_⟩
      refine ⟨_, false, (fun σ ι w1 hg hd hon => by
          have hN := hN.ofGr ((Gr.refl _).drew.trans hg)
          have hB5 := hB5.gr ((Gr.refl _).drew.trans hg)
          have hB4 := hB4.gr ((Gr.refl _).drew.trans hg)
          have hO := hO.gr ((Gr.refl _).drew.trans hg)
          have hQ := hQ.gr ((Gr.refl _).drew.trans hg)
          have f3 := hd 3 (by decide) _ rfl
          have e3 : σ 3 = _ := f3.1 trivial
          exact OpOK.sub (r := [(64, _), (1, _), (4, _), (5, _)]) ⟨congrArg some e3, rfl, rfl, rfl, trivial⟩ (by
            exact OpOK.eq (r_load sc5 rfl (hN.sat.cell (hA.num (j := 1) h1).1)))
          ), (fun _ _ _ _ _ _ h => h), (FreeR.no _), ?_⟩
      refine ⟨_, false, (fun σ ι w1 hg hd hon => by
          have f4 := hd 4 (by decide) _ rfl
          have e4 : σ 4 = _ := f4.1 trivial
          exact OpOK.sub (r := [(65, _), (1, _), (4, _), (5, _)]) ⟨congrArg some e4, rfl, rfl, rfl, trivial⟩ (by
            first | exact OpOK.eq (r_convk Try.underlying5 Try.underlying3 rfl (by simp only [InK]; omega)) | exact OpOK.eq (r_conv Try.underlying5 Try.underlying3 rfl))
          ), (fun _ _ _ _ _ _ h => h), (FreeR.no _), ?_⟩
      intro σ ι a27 w32 hgw32 H114 hd hap
      skip
      have hN0 := hN
      have hN := hN.ofGr ((Gr.refl _).drew.trans hgw32)
      replace hB5 := hB5.gr ((Gr.refl _).drew.trans hgw32)
      replace hB4 := hB4.gr ((Gr.refl _).drew.trans hgw32)
      replace hO := hO.gr ((Gr.refl _).drew.trans hgw32)
      replace hQ := hQ.gr ((Gr.refl _).drew.trans hgw32)
      replace hszB := Nat.le_trans hszB ((Gr.refl _).drew.trans hgw32).size
      have e1 : σ 1 = _ := (hd 1 (by decide) _ rfl).1 trivial
      have e5 : σ 5 = _ := (hd 5 (by decide) _ rfl).1 trivial
      replace H114 := H114.sub (r := [(62, _), (66, _), (1, _), (4, _), (5, _)]) ⟨congrArg some e1, congrArg some e5, rfl, rfl, rfl, trivial⟩
      clear hd
      clear hap
      first | refine wl1 H114 (r_addk rfl rfl (by simp only [InK]; omega)) rfl rfl rfl rfl fun a28 H115 => ?_ | refine wl1 H114 (r_add rfl rfl) rfl rfl rfl rfl fun a28 H115 => ?_
      clear H114 a27
      refine wl1 H115 (r_fld fld26_4 rfl) rfl rfl rfl rfl fun a29 H116 => ?_
      clear H115 a28
      refine s_store H116 sz3 rfl rfl rfl hN hB5 (by simp) hgeb5 fun w33 hN hB5 ew33 H117 => ?_
      clear H116
      replace hB4 := hB4.otherE ew33 (by omega)
      replace hO := hO.otherE ew33 (by omega)
      replace hQ := hQ.otherE ew33 (by omega)
      replace hszB := sz_setB ew33 hszB
      simp only [Nat.zero_add, Nat.add_zero, Nat.reduceAdd, Nat.reduceMul, List.set_cons_zero, List.set_cons_succ, spliceL] at hB5
      clear ew33
      refine wl_end ?_
      refine th_n ?_
      refine wpIn_seq ?_
      refine w_reg ?_
      refine wl1 H117 (r_move rfl) rfl rfl rfl rfl fun a30 H118 => ?_
      clear H117 a29
      refine wl1 H118 (r_idx Try.underlying23 sz5 rfl rfl (i := 2) rfl (by omega)) rfl rfl rfl rfl fun a31 H119 => ?_
      clear H118 a30
      refine wl1 H119 (r_load sc5 rfl (hN.sat.cell (hA.num (j := 2) h2).1)) rfl rfl rfl rfl fun a32 H120 => ?_
      clear H119 a31
      refine wl1 H120 (r_remk rfl rfl (by omega) (by omega)) rfl rfl rfl rfl fun a33 H121 => ?_
      clear H120 a32
      refine wl1 H121 (r_eql rfl rfl) rfl rfl rfl rfl fun a34 H122 => ?_
      clear H121 a33
      refine wl_end ?_
      refine th_n ?_
      first | refine w_if H122 rfl (fun hc73 => ?_) (fun hc73 => ?_) | refine w_cond H122 rfl (fun hc73 => ?_) (fun hc73 => ?_)
      ·
        try simp only [decide_eq_true_eq, decide_eq_false_iff_not, Bool.or_eq_true, Bool.and_eq_true, Bool.or_eq_false_iff, Bool.and_eq_false_iff, Bool.not_eq_true', Bool.not_eq_false', Int.not_lt, Int.not_le, ne_eq, Decidable.not_not] at hc73
        refine wpIn_seq ?_
        have hS0 := hN.sat
        have hNsz13 := hN.gr.size
        refine w_drawE (m := 9) (l0 := [(1, _), (4, _), (5, _)]) hfol H122 ⟨rfl, rfl, rfl, trivial⟩ (by kernel_rfl) ?_
        refine ⟨_, false, (fun σ ι w1 hg hd hon => by
            exact OpOK.sub (r := [(1, _), (4, _), (5, _)]) ⟨rfl, rfl, rfl, trivial⟩ (by
              exact OpOK.eq (r_fld fld26_1 rfl))
            ), (fun _ _ _ _ _ _ h => h), (FreeR.no _), ?_⟩
        refine ⟨_, false, (fun σ ι w1 hg hd hon => by
            have hN := hN.ofGr ((Gr.refl _).drew.trans hg)
            have hB5 := hB5.gr ((Gr.refl _).drew.trans hg)
            have hB4 := hB4.gr ((Gr.refl _).drew.trans hg)
            have hO := hO.gr ((Gr.refl _).drew.trans hg)
            have hQ := hQ.gr ((Gr.refl _).drew.trans hg)
            have f0 := hd 0 (by decide) _ rfl
            have e0 : σ 0 = _ := f0.1 trivial
            exact OpOK.sub (r := [(74, _), (1, _), (4, _), (5, _)]) ⟨congrArg some e0, rfl, rfl, rfl, trivial⟩ (by
              exact OpOK.eq (r_load sc24 rfl (hB5.cell rfl)))
            ), (fun _ _ _ _ _ _ h => h), (FreeR.no _), ?_⟩
        refine ⟨_, false, (fun σ ι w1 hg hd hon => by
            have f1 := hd 1 (by decide) _ rfl
            have e1 : σ 1 = _ := f1.1 trivial
            exact OpOK.sub (r := [(75, _), (1, _), (4, _), (5, _)]) ⟨congrArg some e1, rfl, rfl, rfl, trivial⟩ (by
              exact OpOK.eq (r_len Try.underlying24 rfl))
            ), (fun _ _ _ _ _ _ h => h), (FreeR.no _), ?_⟩
        refine ⟨_, false, (fun σ ι w1 hg hd hon => by
            have f2 := hd 2 (by decide) _ rfl
            have e2 : σ 2 = _ := f2.1 trivial
            exact OpOK.sub (r := [(76, _), (1, _), (4, _), (5, _)]) ⟨congrArg some e2, rfl, rfl, rfl, trivial⟩ (by
              first | exact OpOK.eq (r_subk rfl rfl (by simp only [InK]; omega)) | exact OpOK.eq (r_sub rfl rfl))
            ), (fun _ _ _ _ _ _ h => h), (FreeR.no _), ?_⟩
        refine ⟨_, false, (fun σ ι w1 hg hd hon => by
            exact OpOK.sub (r := [(1, _), (4, _), (5, _)]) ⟨rfl, rfl, rfl, trivial⟩ (by
              exact OpOK.eq (r_move rfl))
            ), (fun _ _ _ _ _ _ h => h), (FreeR.no _), ?_⟩
        refine ⟨_, false, (fun σ ι w1 hg hd hon => by
            have f4 := hd 4 (by decide) _ rfl
            have e4 : σ 4 = _ := f4.1 trivial
            exact OpOK.sub (r := [(78, _), (1, _), (4, _), (5, _)]) ⟨congrArg some e4, rfl, rfl, rfl, trivial⟩ (by
              exact OpOK.eq (r_idx Try.underlying23 sz5 rfl rfl (i := 0) rfl (by omega)))
            ), (fun _ _ _ _ _ _ h => h), (FreeR.no _), ?_⟩
        refine ⟨_, false, (fun σ ι w1 hg hd hon => by
            have hN := hN.ofGr ((Gr.refl _).drew.trans hg)
            have hB5 := hB5.gr ((Gr.refl _).drew.trans hg)
            have hB4 := hB4.gr ((Gr.refl _).drew.trans hg)
            have hO := hO.gr ((Gr.refl _).drew.trans hg)
            have hQ := hQ.gr ((Gr.refl _).drew.trans hg)
            have f5 := hd 5 (by decide) _ rfl
            have e5 : σ 5 = _ := f5.1 trivial
            exact OpOK.sub (r := [(79, _), (1, _), (4, _), (5, _)]) ⟨congrArg some e5, rfl, rfl, rfl, trivial⟩ (by
              exact OpOK.eq (r_load sc5 rfl (hN.sat.cell (hA.num (j := 0) h0).1)))
            ), (fun _ _ _ _ _ _ h => h), (FreeR.no _), ?_⟩
        refine ⟨_, false, (fun σ ι w1 hg hd hon => by
            have f6 := hd 6 (by decide) _ rfl
            have e6 : σ 6 = _ := f6.1 trivial
            exact OpOK.sub (r := [(80, _), (1, _), (4, _), (5, _)]) ⟨congrArg some e6, rfl, rfl, rfl, trivial⟩ (by
              exact OpOK.eq (r_remk rfl rfl (by omega) (by omega)))
            ), (fun _ _ _ _ _ _ h => h), (FreeR.no _), ?_⟩
        refine ⟨_, false, (fun σ ι w1 hg hd hon => by
            have f7 := hd 7 (by decide) _ rfl
            have e7 : σ 7 = _ := f7.1 trivial
            exact OpOK.sub (r := [(81, _), (1, _), (4, _), (5, _)]) ⟨congrArg some e7, rfl, rfl, rfl, trivial⟩ (by
              first | exact OpOK.eq (r_convk Try.underlying5 Try.underlying3 rfl (by simp only [InK]; omega)) | exact OpOK.eq (r_conv Try.underlying5 Try.underlying3 rfl))
            ), (fun _ _ _ _ _ _ h => h), (FreeR.no _), ?_⟩
        intro σ ι a35 w35 hgw35 H123 hd hap
        skip
        have hN0 := hN
        have hN := hN.ofGr ((Gr.refl _).drew.trans hgw35)
        replace hB5 := hB5.gr ((Gr.refl _).drew.trans hgw35)
        replace hB4 := hB4.gr ((Gr.refl _).drew.trans hgw35)
        replace hO := hO.gr ((Gr.refl _).drew.trans hgw35)
        replace hQ := hQ.gr ((Gr.refl _).drew.trans hgw35)
        replace hszB := Nat.le_trans hszB ((Gr.refl _).drew.trans hgw35).size
        have e3 : σ 3 = _ := (hd 3 (by decide) _ rfl).1 trivial
        have e8 : σ 8 = _ := (hd 8 (by decide) _ rfl).1 trivial
        replace H123 := H123.sub (r := [(77, _), (82, _), (1, _), (4, _), (5, _)]) ⟨congrArg some e3, congrArg some e8, rfl, rfl, rfl, trivial⟩
        clear hd
        clear hap
        first | refine wl1 H123 (r_subk rfl rfl (by simp only [InK]; omega)) rfl rfl rfl rfl fun a36 H124 => ?_ | refine wl1 H123 (r_sub rfl rfl) rfl rfl rfl rfl fun a36 H124 => ?_
        clear H123 a35
        refine wl1 H124 (r_fld fld26_2 rfl) rfl rfl rfl rfl fun a37 H125 => ?_
        clear H124 a36
        refine s_store H125 sz3 rfl rfl rfl hN hB5 (by simp) hgeb5 fun w36 hN hB5 ew36 H126 => ?_
        clear H125
        replace hB4 := hB4.otherE ew36 (by omega)
        replace hO := hO.otherE ew36 (by omega)
        replace hQ := hQ.otherE ew36 (by omega)
        replace hszB := sz_setB ew36 hszB
        simp only [Nat.zero_add, Nat.add_zero, Nat.reduceAdd, Nat.reduceMul, List.set_cons_zero, List.set_cons_succ, spliceL] at hB5
        clear ew36
        refine wl_end ?_
        refine th_n ?_
        refine w_reg ?_
        refine wl1 H126 (r_move rfl) rfl rfl rfl rfl fun a38 H127 => ?_
        clear H126 a37
        refine wl1 H127 (r_idx Try.underlying23 sz5 rfl rfl (i := 1) rfl (by omega)) rfl rfl rfl rfl fun a39 H128 => ?_
        clear H127 a38
        refine wl1 H128 (r_load sc5 rfl (hN.sat.cell (hA.num (j := 1) h1).1)) rfl rfl rfl rfl fun a40 H129 => ?_
        clear H128 a39
        refine wl1 H129 (r_remk rfl rfl (by omega) (by omega)) rfl rfl rfl rfl fun a41 H130 => ?_
        clear H129 a40
        first | refine wl1 H130 (r_convk Try.underlying5 Try.underlying3 rfl (by simp only [InK]; omega)) rfl rfl rfl rfl fun a42 H131 => ?_ | refine wl1 H130 (r_conv Try.underlying5 Try.underlying3 rfl) rfl rfl rfl rfl fun a42 H131 => ?_
        clear H130 a41
        first | refine wl1 H131 (r_subk rfl rfl (by simp only [InK]; omega)) rfl rfl rfl rfl fun a43 H132 => ?_ | refine wl1 H131 (r_sub rfl rfl) rfl rfl rfl rfl fun a43 H132 => ?_
        clear H131 a42
        refine wl1 H132 (r_fld fld26_4 rfl) rfl rfl rfl rfl fun a44 H133 => ?_
        clear H132 a43
        refine s_store H133 sz3 rfl rfl rfl hN hB5 (by simp) hgeb5 fun w37 hN hB5 ew37 H134 => ?_
        clear H133
        replace hB4 := hB4.otherE ew37 (by omega)
        replace hO := hO.otherE ew37 (by omega)
        replace hQ := hQ.otherE ew37 (by omega)
        replace hszB := sz_setB ew37 hszB
        simp only [Nat.zero_add, Nat.add_zero, Nat.reduceAdd, Nat.reduceMul, List.set_cons_zero, List.set_cons_succ, spliceL] at hB5
        clear ew37
        refine wl_end ?_
        refine th_n ?_
        refine wpIn_seq ?_
        refine w_reg ?_
        refine wl1 H134 (r_loadA (cs := [_, _, _, _, _]) ag26 rfl hB5.agg) rfl rfl rfl rfl fun a45 H135 => ?_
        clear H134 a44
        refine s_storeA (vs := [_, _, _, _, _]) H135 sz26 (by simp) (by simp [Value.oneCell']) rfl rfl hN hB4 (by simp) hgeb4 fun w38 hN hB4 ew38 H136 => ?_
        clear H135
        replace hB5 := hB5.otherE ew38 (by omega)
        replace hO := hO.otherE ew38 (by omega)
        replace hQ := hQ.otherE ew38 (by omega)
        replace hszB := sz_setB ew38 hszB
        simp only [Nat.zero_add, Nat.add_zero, Nat.reduceAdd, Nat.reduceMul, List.set_cons_zero, List.set_cons_succ, spliceL] at hB4
        clear ew38
        refine wl_end ?_
        refine th_n ?_
        refine wpIn_ret ?_
        refine fin_r H136 (resC rfl H136 rfl hB4 ag26) ?_
        first
          | (have hg : glink key bs = ⟨key, sts.1, (1000000000 : Int) - sts.1.length - bs[0] % 2, sts.2, (1000000000 : Int) - bs[1] % 2⟩ := by unfold glink; rw [← hsts]; simp only [gd bs h0, gd bs h1, gd bs h2]; rw [if_pos (by omega), if_pos (by omega)]
             refine ⟨Kf, hN, A1, c1, A2, c2, ?_, ?_⟩
             · rw [hg]
             · rw [hg]; exact ⟨hkey, by show InK .i64 (_ : Int); simp only [InK]; omega, by show InK .i64 (_ : Int); simp only [InK]; omega, hc3, hE1, hc4, hE2⟩)
          | (have hg : glink key bs = ⟨key, sts.1, bs[0], sts.2, sts.2.length + bs[1]⟩ := by unfold glink; rw [← hsts]; simp only [gd bs h0, gd bs h1, gd bs h2]; rw [if_pos (by omega), if_neg (by omega)]
             refine ⟨Kf, hN, A1, c1, A2, c2, ?_, ?_⟩
             · rw [hg]
             · rw [hg]; exact ⟨hkey, by show InK .i64 (_ : Int); simp only [InK]; omega, by show InK .i64 (_ : Int); simp only [InK]; omega, hc3, hE1, hc4, hE2⟩)
          | (have hg : glink key bs = ⟨key, sts.1, 0, sts.2, sts.2.length⟩ := by unfold glink; rw [← hsts]; simp only []; rw [if_neg (by omega)]
             refine ⟨Kf, hN, A1, c1, A2, c2, ?_, ?_⟩
             · rw [hg]
             · rw [hg]; exact ⟨hkey, by show InK .i64 (_ : Int); simp only [InK]; omega, by show InK .i64 (_ : Int); simp only [InK]; omega, hc3, hE1, hc4, hE2⟩)
      ·
        try simp only [decide_eq_true_eq, decide_eq_false_iff_not, Bool.or_eq_true, Bool.and_eq_true, Bool.or_eq_false_iff, Bool.and_eq_false_iff, Bool.not_eq_true', Bool.not_eq_false', Int.not_lt, Int.not_le, ne_eq, Decidable.not_not] at hc73
        refine wpIn_skip ?_
        refine th_n ?_
        refine wpIn_seq ?_
        refine w_reg ?_
        refine wl1 H122 (r_loadA (cs := [_, _, _, _, _]) ag26 rfl hB5.agg) rfl rfl rfl rfl fun a35 H137 => ?_
        clear H122 a34
        refine s_storeA (vs := [_, _, _, _, _]) H137 sz26 (by simp) (by simp [Value.oneCell']) rfl rfl hN hB4 (by simp) hgeb4 fun w39 hN hB4 ew39 H138 => ?_
        clear H137
        replace hB5 := hB5.otherE ew39 (by omega)
        replace hO := hO.otherE ew39 (by omega)
        replace hQ := hQ.otherE ew39 (by omega)
        replace hszB := sz_setB ew39 hszB
        simp only [Nat.zero_add, Nat.add_zero, Nat.reduceAdd, Nat.reduceMul, List.set_cons_zero, List.set_cons_succ, spliceL] at hB4
        clear ew39
        refine wl_end ?_
        refine th_n ?_
        refine wpIn_ret ?_
        refine fin_r H138 (resC rfl H138 rfl hB4 ag26) ?_
        first
          | (have hg : glink key bs = ⟨key, sts.1, (1000000000 : Int) - sts.1.length - bs[0] % 2, sts.2, (1000000000 : Int) - bs[1] % 2⟩ := by unfold glink; rw [← hsts]; simp only [gd bs h0, gd bs h1, gd bs h2]; rw [if_pos (by omega), if_pos (by omega)]
             refine ⟨Kf, hN, A1, c1, A2, c2, ?_, ?_⟩
             · rw [hg]
             · rw [hg]; exact ⟨hkey, by show InK .i64 (_ : Int); simp only [InK]; omega, by show InK .i64 (_ : Int); simp only [InK]; omega, hc3, hE1, hc4, hE2⟩)
          | (have hg : glink key bs = ⟨key, sts.1, bs[0], sts.2, sts.2.length + bs[1]⟩ := by unfold glink; rw [← hsts]; simp only [gd bs h0, gd bs h1, gd bs h2]; rw [if_pos (by omega), if_neg (by omega)]
             refine ⟨Kf, hN, A1, c1, A2, c2, ?_, ?_⟩
             · rw [hg]
             · rw [hg]; exact ⟨hkey, by show InK .i64 (_ : Int); simp only [InK]; omega, by show InK .i64 (_ : Int); simp only [InK]; omega, hc3, hE1, hc4, hE2⟩)
          | (have hg : glink key bs = ⟨key, sts.1, 0, sts.2, sts.2.length⟩ := by unfold glink; rw [← hsts]; simp only []; rw [if_neg (by omega)]
             refine ⟨Kf, hN, A1, c1, A2, c2, ?_, ?_⟩
             · rw [hg]
             · rw [hg]; exact ⟨hkey, by show InK .i64 (_ : Int); simp only [InK]; omega, by show InK .i64 (_ : Int); simp only [InK]; omega, hc3, hE1, hc4, hE2⟩)
    ·
      try simp only [decide_eq_true_eq, decide_eq_false_iff_not, Bool.or_eq_true, Bool.and_eq_true, Bool.or_eq_false_iff, Bool.and_eq_false_iff, Bool.not_eq_true', Bool.not_eq_false', Int.not_lt, Int.not_le, ne_eq, Decidable.not_not] at hc55
      refine wpIn_skip ?_
      refine th_n ?_
      refine wpIn_seq ?_
      refine w_reg ?_
      refine wl1 H107 (r_loadA (cs := [_, _, _, _, _]) ag26 rfl hB5.agg) rfl rfl rfl rfl fun a22 H139 => ?_
      clear H107 a21
      refine s_storeA (vs := [_, _, _, _, _]) H139 sz26 (by simp) (by simp [Value.oneCell']) rfl rfl hN hB4 (by simp) hgeb4 fun w40 hN hB4 ew40 H140 => ?_
      clear H139
      replace hB5 := hB5.otherE ew40 (by omega)
      replace hO := hO.otherE ew40 (by omega)
      replace hQ := hQ.otherE ew40 (by omega)
      replace hszB := sz_setB ew40 hszB
      simp only [Nat.zero_add, Nat.add_zero, Nat.reduceAdd, Nat.reduceMul, List.set_cons_zero, List.set_cons_succ, spliceL] at hB4
      clear ew40
      refine wl_end ?_
      refine th_n ?_
      refine wpIn_ret ?_
      refine fin_r H140 (resC rfl H140 rfl hB4 ag26) ?_
      first
        | (have hg : glink key bs = ⟨key, sts.1, (1000000000 : Int) - sts.1.length - bs[0] % 2, sts.2, (1000000000 : Int) - bs[1] % 2⟩ := by unfold glink; rw [← hsts]; simp only [gd bs h0, gd bs h1, gd bs h2]; rw [if_pos (by omega), if_pos (by omega)]
           refine ⟨Kf, hN, A1, c1, A2, c2, ?_, ?_⟩
           · rw [hg]
           · rw [hg]; exact ⟨hkey, by show InK .i64 (_ : Int); simp only [InK]; omega, by show InK .i64 (_ : Int); simp only [InK]; omega, hc3, hE1, hc4, hE2⟩)
        | (have hg : glink key bs = ⟨key, sts.1, bs[0], sts.2, sts.2.length + bs[1]⟩ := by unfold glink; rw [← hsts]; simp only [gd bs h0, gd bs h1, gd bs h2]; rw [if_pos (by omega), if_neg (by omega)]
           refine ⟨Kf, hN, A1, c1, A2, c2, ?_, ?_⟩
           · rw [hg]
           · rw [hg]; exact ⟨hkey, by show InK .i64 (_ : Int); simp only [InK]; omega, by show InK .i64 (_ : Int); simp only [InK]; omega, hc3, hE1, hc4, hE2⟩)
        | (have hg : glink key bs = ⟨key, sts.1, 0, sts.2, sts.2.length⟩ := by unfold glink; rw [← hsts]; simp only []; rw [if_neg (by omega)]
           refine ⟨Kf, hN, A1, c1, A2, c2, ?_, ?_⟩
           · rw [hg]
           · rw [hg]; exact ⟨hkey, by show InK .i64 (_ : Int); simp only [InK]; omega, by show InK .i64 (_ : Int); simp only [InK]; omega, hc3, hE1, hc4, hE2⟩)
end Go.Proofs.Ytjjpaghloaggeaa
