/- TransportWindows, walked. -/
import Derived.Test.YtjjpaghloaggeaaTrI
import Derived.Test.YtjjpaghloaggeaaWin
set_option linter.unusedVariables false
set_option linter.unusedSimpArgs false
namespace Go.Proofs.Ytjjpaghloaggeaa
open Go.RowKit

set_option maxRecDepth 100000 in
set_option maxHeartbeats 4000000 in
theorem windows_walk {key n b0 b1 b2 b3 : Int} {I : Im} {w : World} (hS : Sat I w) (hkey : InK .u64 key) (hn : InK .u8 n) (g0 : InK .u8 b0) (g1 : InK .u8 b1) (g2 : InK .u8 b2) (g3 : InK .u8 b3) :
    Ret Try.prog 9 [.int .u64 key, .int .u8 n, .agg #[.int .u8 b0, .int .u8 b1, .int .u8 b2, .int .u8 b3]] w (fun v w' => v = .bool true ∧ Gr w w') := by
  simp only [InK] at hn
  refine ret_of (N := 129) Try.func9 rfl rfl rfl fun a0 H0 => ?_
  have hN := New.refl hS
  simp only [argsEnv, Nat.zero_add, Nat.reduceAdd] at H0
  refine wpIn_seq ?_
  refine w_reg ?_
  refine s_box H0 rfl rfl hN fun w1 b5 hN gw1 hB5 hgeb5 heb5 a1 H1 => ?_
  clear H0 a0
  replace hB5 : Box _ _ _ [_, _, _, _] 75 := hB5
  refine wl1 H1 (r_assign rfl) rfl rfl rfl rfl fun a2 H2 => ?_
  clear H1 a1
  refine wl_end ?_
  refine th_n ?_
  refine wpIn_seq ?_
  refine w_reg ?_
  obtain ⟨Kz1, hN, hE5, hleKz1, hsmKz1⟩ := hN.freezeInts (q := .u8) (xs := [b0, b1, b2, b3]) hB5 rfl hgeb5 (by simp) (by simp only [List.mem_cons, List.not_mem_nil, or_false]; rintro y (rfl | rfl | rfl | rfl) <;> assumption)
  refine wlc  H2 rfl rfl hb10 rfl (lexamples hN.sat) fun v w3 hR a3 H3 => ?_
  clear H2 a2
  obtain ⟨rfl, gw3⟩ := hR
  have hN := hN.ofGr gw3
  replace H3 := H3.known (t := 20) (b := true) rfl rfl
  refine wl1 H3 (r_assign rfl) rfl rfl rfl rfl fun a4 H4 => ?_
  clear H3 a3
  refine wl_end ?_
  refine th_n ?_
  refine wpIn_seq ?_
  refine wpIn_seq ?_
  refine w_reg ?_
  refine wl1 H4 (r_move rfl) rfl rfl rfl rfl fun a5 H5 => ?_
  clear H4 a4
  obtain ⟨bs, hbs⟩ : ∃ bs, bs = [b0, b1, b2, b3] := ⟨_, rfl⟩
  rw [← hbs] at hE5
  have hbl : bs.length = 4 := by rw [hbs]; rfl
  refine wl1 H5 (r_not rfl) rfl rfl rfl rfl fun a6 H6 => ?_
  clear H5 a5
  replace H6 := H6.known (t := 22) (b := false) rfl rfl
  refine wl_end ?_
  refine th_n ?_
  refine w_ff H6 rfl rfl ?_
  refine wpIn_skip ?_
  refine th_n ?_
  refine wpIn_seq ?_
  refine w_reg ?_
  refine wl1 H6 (r_move rfl) rfl rfl rfl rfl fun a7 H7 => ?_
  clear H6 a6
  refine wlc  H7 rfl rfl hb13 rfl (pair_ret hN.sat) fun v w4 hR a8 H8 => ?_
  clear H7 a7
  obtain ⟨rfl, gw4⟩ := hR
  have hN := hN.ofGr gw4
  refine wl1 H8 (r_move rfl) rfl rfl rfl rfl fun a9 H9 => ?_
  clear H8 a8
  refine wl1 H9 (r_extract rfl rfl) rfl rfl rfl rfl fun a10 H10 => ?_
  clear H9 a9
  refine wl1 H10 (r_extract rfl rfl) rfl rfl rfl rfl fun a11 H11 => ?_
  clear H10 a10
  refine s_alloc H11 zv26 rfl hN fun w5 b8 hN gw5 hB8 hgeb8 heb8 a12 H12 => ?_
  clear H11 a11
  replace hB8 : Box _ _ _ [.int .u64 0, .slice none 0 0, .int .i64 0, .slice none 0 0, .int .i64 0] 26 := hB8
  refine s_alloc H12 zv26 rfl hN fun w6 b9 hN gw6 hB9 hgeb9 heb9 a13 H13 => ?_
  clear H12 a12
  replace hB9 : Box _ _ _ [.int .u64 0, .slice none 0 0, .int .i64 0, .slice none 0 0, .int .i64 0] 26 := hB9
  have hne_hB8_b9 := hB8.lt
  rw [← heb9] at hne_hB8_b9
  replace hB8 := hB8.gr gw6
  refine s_storeA (vs := [_, _, _, _, _]) H13 sz26 (by simp) (by simp [Value.oneCell']) rfl rfl hN hB8 (by simp) hgeb8 fun w7 hN hB8 ew7 H14 => ?_
  clear H13
  replace hB9 := hB9.otherE ew7 (by omega)
  simp only [Nat.zero_add, Nat.add_zero, Nat.reduceAdd, Nat.reduceMul, List.set_cons_zero, List.set_cons_succ, spliceL] at hB8
  clear ew7
  refine s_storeA (vs := [_, _, _, _, _]) H14 sz26 (by simp) (by simp [Value.oneCell']) rfl rfl hN hB9 (by simp) hgeb9 fun w8 hN hB9 ew8 H15 => ?_
  clear H14
  replace hB8 := hB8.otherE ew8 (by omega)
  simp only [Nat.zero_add, Nat.add_zero, Nat.reduceAdd, Nat.reduceMul, List.set_cons_zero, List.set_cons_succ, spliceL] at hB9
  clear ew8
  refine wl_end ?_
  refine th_n ?_
  refine wpIn_seq ?_
  refine w_reg ?_
  refine wl1 H15 (r_loadA (cs := [_, _, _, _, _]) ag26 rfl hB9.agg) rfl rfl rfl rfl fun a14 H16 => ?_
  clear H15 a13
  refine s_alloc H16 zv26 rfl hN fun w9 b10 hN gw9 hB10 hgeb10 heb10 a15 H17 => ?_
  clear H16 a14
  replace hB10 : Box _ _ _ [.int .u64 0, .slice none 0 0, .int .i64 0, .slice none 0 0, .int .i64 0] 26 := hB10
  have hne_hB8_b10 := hB8.lt
  rw [← heb10] at hne_hB8_b10
  have hne_hB9_b10 := hB9.lt
  rw [← heb10] at hne_hB9_b10
  replace hB8 := hB8.gr gw9
  replace hB9 := hB9.gr gw9
  refine s_storeA (vs := [_, _, _, _, _]) H17 sz26 (by simp) (by simp [Value.oneCell']) rfl rfl hN hB10 (by simp) hgeb10 fun w10 hN hB10 ew10 H18 => ?_
  clear H17
  replace hB8 := hB8.otherE ew10 (by omega)
  replace hB9 := hB9.otherE ew10 (by omega)
  simp only [Nat.zero_add, Nat.add_zero, Nat.reduceAdd, Nat.reduceMul, List.set_cons_zero, List.set_cons_succ, spliceL] at hB10
  clear ew10
  refine wl_end ?_
  refine th_n ?_
  refine wpIn_seq ?_
  refine w_reg ?_
  refine wl1 H18 (r_move rfl) rfl rfl rfl rfl fun a16 H19 => ?_
  clear H18 a15
  refine wl1 H19 (r_remk rfl rfl (by omega) (by omega)) rfl rfl rfl rfl fun a17 H20 => ?_
  clear H19 a16
  first | refine wl1 H20 (r_convk Try.underlying5 Try.underlying3 rfl (by simp only [InK]; omega)) rfl rfl rfl rfl fun a18 H21 => ?_ | refine wl1 H20 (r_conv Try.underlying5 Try.underlying3 rfl) rfl rfl rfl rfl fun a18 H21 => ?_
  clear H20 a17
  first | refine wl1 H21 (r_addk rfl rfl (by simp only [InK]; omega)) rfl rfl rfl rfl fun a19 H22 => ?_ | refine wl1 H21 (r_add rfl rfl) rfl rfl rfl rfl fun a19 H22 => ?_
  clear H21 a18
  obtain ⟨M, hM⟩ : ∃ M : Nat, 1 + n % 8 = (M : Int) := ⟨(1 + n % 8).toNat, by omega⟩
  rw [hM] at H22
  have hM1 : 1 ≤ M := by omega
  have hM8 : M ≤ 8 := by omega
  refine wl1 H22 (r_assign rfl) rfl rfl rfl rfl fun a20 H23 => ?_
  clear H22 a19
  refine wl_end ?_
  refine th_n ?_
  refine wpIn_seq ?_
  refine w_reg ?_
  refine s_lit1 (cs := []) H23 Try.underlying24 sz23 zv23 rfl rfl rfl (by simp [Value.oneCell']) rfl hN fun w11 l33 K11 hKl33 hlel33 hN nw11 hgel33 a21 H24 => ?_
  clear H23 a20
  replace hE5 := hE5.up nw11.le
  replace hB8 := hB8.next nw11
  replace hB9 := hB9.next nw11
  replace hB10 := hB10.next nw11
  refine wl1 H24 (r_assign rfl) rfl rfl rfl rfl fun a22 H25 => ?_
  clear H24 a21
  refine wl_end ?_
  refine th_n ?_
  refine wpIn_seq ?_
  refine wpIn_seq ?_
  refine w_reg ?_
  obtain ⟨B9, hBw⟩ : ∃ B, B = (w11).heap.size := ⟨_, rfl⟩
  have hlt8b := hB8.lt
  have hlt9b := hB9.lt
  have hlt10b := hB10.lt
  have hwB : w.heap.size ≤ B9 := by rw [hBw]; exact hN.gr.size
  have hszB : B9 ≤ (w11).heap.size := Nat.le_of_eq hBw
  refine wl1 H25 (r_assign rfl) rfl rfl rfl rfl fun a23 H26 => ?_
  clear H25 a22
  refine wl_end ?_
  refine th_n ?_
  refine wpIn_block ?_
  refine w_loop (ι := (Nat × Value) × Im) (fun xJ => (fun x => [(13, .int .i64 (x.1 : Int)), (12, x.2)]) xJ.1) (fun xJ W => Im.le K11 xJ.2 ∧ New I w xJ.2 W ∧ (fun x (J : Im) => x.1 ≤ M ∧ (∃ A1 c1 A2 c2, Box J W b8 [.int .u64 (wX key bs n x.1).key, .slice A1 (wX key bs n x.1).out.length c1, .int .i64 (wX key bs n x.1).base, .slice A2 (wX key bs n x.1).inn.length c2, .int .i64 (wX key bs n x.1).rcv] 26 ∧ LkAt J (wX key bs n x.1) A1 c1 A2 c2) ∧ Box J W b9 [.int .u64 (key1 key), .slice none 0 0, .int .i64 0, .slice none 0 0, .int .i64 0] 26 ∧ Box J W b10 [.int .u64 (key1 key), .slice none 0 0, .int .i64 0, .slice none 0 0, .int .i64 0] 26 ∧ B9 ≤ W.heap.size ∧ Apx kB J W B9 23 x.2 (wAll bs n x.1)) xJ.1 xJ.2) (fun xJ => (fun x => M - x.1) xJ.1) (l0 := [(1, _), (5, _), (7, _), (8, _), (9, _), (10, _), (11, _)]) ((0, _), K11) H26 ⟨rfl, rfl, rfl, rfl, rfl, rfl, rfl, rfl, rfl, trivial⟩ ⟨Im.le.refl _, hN, Nat.zero_le _, ⟨none, 0, none, 0, hB8, lk_new _ hkey⟩, hB9, hB10, hszB, .inr ⟨_, rfl, Els.nil _ _ _⟩⟩ ?_
  rintro ⟨⟨k, u⟩, J12⟩ a24 w12 H27 ⟨hleJ1, hN, hk, ⟨A1, c1, A2, c2, hB8, hx⟩, hB9, hB10, hszB, hO⟩
  clear H26 a23
  simp only [List.cons_append, List.nil_append] at H27
  try dsimp only at hleJ1
  try dsimp only at hN
  replace hE5 := hE5.up hleJ1
  simp only at hk hB8 hx hB9 hB10 hszB hO H27
  try dsimp only at A1
  try dsimp only at A2
  try dsimp only at c1
  try dsimp only at c2
  try dsimp only at hB10
  try dsimp only at hB8
  try dsimp only at hB9
  try dsimp only at hO
  try dsimp only at hk
  try dsimp only at hszB
  try dsimp only at hx
  refine wpIn_seq ?_
  refine wpIn_seq ?_
  refine w_reg ?_
  refine wl1 H27 (r_move rfl) rfl rfl rfl rfl fun a25 H28 => ?_
  clear H27 a24
  refine wl1 H28 (r_move rfl) rfl rfl rfl rfl fun a26 H29 => ?_
  clear H28 a25
  refine wl1 H29 (r_lss rfl rfl) rfl rfl rfl rfl fun a27 H30 => ?_
  clear H29 a26
  refine wl_end ?_
  refine th_n ?_
  first | refine w_if H30 rfl (fun hc36 => ?_) (fun hc36 => ?_) | refine w_cond H30 rfl (fun hc36 => ?_) (fun hc36 => ?_)
  ·
    try simp only [decide_eq_true_eq, decide_eq_false_iff_not, Bool.or_eq_true, Bool.and_eq_true, Bool.or_eq_false_iff, Bool.and_eq_false_iff, Bool.not_eq_true', Bool.not_eq_false', Int.not_lt, Int.not_le, ne_eq, Decidable.not_not] at hc36
    refine wpIn_skip ?_
    refine th_n ?_
    refine wpIn_seq ?_
    refine wpIn_block ?_
    refine wpIn_seq ?_
    refine w_reg ?_
    refine wl1 H30 (r_move rfl) rfl rfl rfl rfl fun a28 H31 => ?_
    clear H30 a27
    refine wl1 H31 (r_move rfl) rfl rfl rfl rfl fun a29 H32 => ?_
    clear H31 a28
    refine wl1 H32 (r_move rfl) rfl rfl rfl rfl fun a30 H33 => ?_
    clear H32 a29
    refine wl1 H33 (r_quok rfl rfl (by omega) (by omega) (by simp only [InK]; omega)) rfl rfl rfl rfl fun a31 H34 => ?_
    clear H33 a30
    first | refine wl1 H34 (r_convk Try.underlying5 Try.underlying3 rfl (by simp only [InK]; omega)) rfl rfl rfl rfl fun a32 H35 => ?_ | refine wl1 H34 (r_conv Try.underlying5 Try.underlying3 rfl) rfl rfl rfl rfl fun a32 H35 => ?_
    clear H34 a31
    first | refine wl1 H35 (r_addk rfl rfl (by simp only [InK]; omega)) rfl rfl rfl rfl fun a33 H36 => ?_ | refine wl1 H35 (r_add rfl rfl) rfl rfl rfl rfl fun a33 H36 => ?_
    clear H35 a32
    refine wl1 H36 (r_remk rfl rfl (by omega) (by omega)) rfl rfl rfl rfl fun a34 H37 => ?_
    clear H36 a33
    refine wl1 H37 (r_uptoA (hi := (wMsg bs n k).length) Try.underlying75 sz5 rfl rfl (by simp [wMsg, hbl]; omega) (by simp [wMsg]; omega)) rfl rfl rfl rfl fun a35 H38 => ?_
    clear H37 a34
    refine s_lit1 (cs := [_]) H38 Try.underlying24 sz23 zv23 rfl rfl rfl (by simp [Value.oneCell']) rfl hN fun w13 l47 K13 hKl47 hlel47 hN nw13 hgel47 a36 H39 => ?_
    clear H38 a35
    replace hE5 := hE5.up nw13.le
    replace hx := hx.up nw13.le
    replace hB8 := hB8.next nw13
    replace hB9 := hB9.next nw13
    replace hB10 := hB10.next nw13
    replace hO := hO.next nw13
    replace hleJ1 := hleJ1.trans nw13.le
    replace hszB := Nat.le_trans hszB nw13.gr.size
    have hE47 : Els kB K13 (some ⟨l47, 0, none⟩) [wMsg bs n k] := Els.one hKl47 ⟨_, 4, rfl, wMsg_len _ _ _, hE5.take _⟩
    refine s_app (d := kB) (B := B9) H39 rfl rfl Try.underlying24 nf23 rfl (by decide) (by decide) rfl hN hO hE47 rfl hwB hszB (by rw [wAll_len]; omega) fun vw14 w14 hO hOO hOO2 kw14 hN a37 H40 => ?_
    clear H39 a36
    replace hB8 := hB8.keep kw14 (by omega)
    replace hB9 := hB9.keep kw14 (by omega)
    replace hB10 := hB10.keep kw14 (by omega)
    replace hszB := Nat.le_trans hszB kw14.size
    have hOw := hOO (by decide)
    rw [← wAll_succ] at hOw
    clear hO hOO hOO2
    obtain ⟨gR, cR, csR, restR, rfl, hcR, hlR, hgR, hRowR, hBR⟩ := hOw.box (by rw [wAll_len]; omega)
    have hkw : k < (wAll bs n (k + 1)).length := by rw [wAll_len]; omega
    refine wl1 H40 (r_assign rfl) rfl rfl rfl rfl fun a38 H41 => ?_
    clear H40 a37
    refine wl_end ?_
    refine th_n ?_
    refine wpIn_seq ?_
    obtain ⟨AA, cAA, hcs, hlA, hEA⟩ := hRowR.msgAt hkw
    rw [wAll_get hkw] at hcs hlA hEA
    have hcell : (csR ++ restR)[0 + k * 1]? = some (.slice AA (wMsg bs n k).length cAA) := by
      rw [Nat.zero_add, Nat.mul_one, List.getElem?_append_left (List.getElem?_eq_some_iff.1 hcs).1]; exact hcs
    have hS0 := hN.sat
    have hNsz12 := hN.gr.size
    have hlt_hB8_12 := hB8.lt
    have hlt_hB9_12 := hB9.lt
    have hlt_hB10_12 := hB10.lt
    have hlt_hBR_12 := hBR.lt
    refine w_drawE (m := 7) (l0 := [(1, _), (5, _), (7, _), (8, _), (9, _), (10, _), (11, _), (12, _), (13, _)]) hfol H41 ⟨rfl, rfl, rfl, rfl, rfl, rfl, rfl, rfl, rfl, trivial⟩ (by kernel_rfl) ?_
    refine ⟨_, false, (fun σ ι w1 hg hd hon => by
        have hN := hN.ofGr ((Gr.refl _).drew.trans hg)
        have hB8 := hB8.gr ((Gr.refl _).drew.trans hg)
        have hB9 := hB9.gr ((Gr.refl _).drew.trans hg)
        have hB10 := hB10.gr ((Gr.refl _).drew.trans hg)
        have hBR := hBR.gr ((Gr.refl _).drew.trans hg)
        have hOw := hOw.gr ((Gr.refl _).drew.trans hg)
        exact OpOK.sub (r := [(1, _), (5, _), (7, _), (8, _), (9, _), (10, _), (11, _), (12, _), (13, _)]) ⟨rfl, rfl, rfl, rfl, rfl, rfl, rfl, rfl, rfl, trivial⟩ (by
          exact OpOK.eq (r_loadA (cs := [_, _, _, _, _]) ag26 rfl hB8.agg))
        ), (fun _ _ _ _ _ _ h => h), (FreeR.no _), ?_⟩
    refine ⟨_, false, (fun σ ι w1 hg hd hon => by
        exact OpOK.sub (r := [(1, _), (5, _), (7, _), (8, _), (9, _), (10, _), (11, _), (12, _), (13, _)]) ⟨rfl, rfl, rfl, rfl, rfl, rfl, rfl, rfl, rfl, trivial⟩ (by
          exact OpOK.eq (r_move rfl))
        ), (fun _ _ _ _ _ _ h => h), (FreeR.no _), ?_⟩
    refine ⟨_, false, (fun σ ι w1 hg hd hon => by
        exact OpOK.sub (r := [(1, _), (5, _), (7, _), (8, _), (9, _), (10, _), (11, _), (12, _), (13, _)]) ⟨rfl, rfl, rfl, rfl, rfl, rfl, rfl, rfl, rfl, trivial⟩ (by
          exact OpOK.eq (r_move rfl))
        ), (fun _ _ _ _ _ _ h => h), (FreeR.no _), ?_⟩
    refine ⟨_, false, (fun σ ι w1 hg hd hon => by
        have f1 := hd 1 (by decide) _ rfl
        have f2 := hd 2 (by decide) _ rfl
        have e1 : σ 1 = _ := f1.1 trivial
        have e2 : σ 2 = _ := f2.1 trivial
        exact OpOK.sub (r := [(50, _), (51, _), (1, _), (5, _), (7, _), (8, _), (9, _), (10, _), (11, _), (12, _), (13, _)]) ⟨congrArg some e1, congrArg some e2, rfl, rfl, rfl, rfl, rfl, rfl, rfl, rfl, rfl, trivial⟩ (by
          exact OpOK.eq (r_idx Try.underlying24 sz23 rfl rfl (i := k) rfl (by rw [wAll_len]; omega)))
        ), (fun _ _ _ _ _ _ h => h), (FreeR.no _), ?_⟩
    refine ⟨_, false, (fun σ ι w1 hg hd hon => by
        have hN := hN.ofGr ((Gr.refl _).drew.trans hg)
        have hB8 := hB8.gr ((Gr.refl _).drew.trans hg)
        have hB9 := hB9.gr ((Gr.refl _).drew.trans hg)
        have hB10 := hB10.gr ((Gr.refl _).drew.trans hg)
        have hBR := hBR.gr ((Gr.refl _).drew.trans hg)
        have hOw := hOw.gr ((Gr.refl _).drew.trans hg)
        have f3 := hd 3 (by decide) _ rfl
        have e3 : σ 3 = _ := f3.1 trivial
        exact OpOK.sub (r := [(52, _), (1, _), (5, _), (7, _), (8, _), (9, _), (10, _), (11, _), (12, _), (13, _)]) ⟨congrArg some e3, rfl, rfl, rfl, rfl, rfl, rfl, rfl, rfl, rfl, trivial⟩ (by
          exact OpOK.eq (r_load sc23 rfl (hBR.cell hcell)))
        ), (fun _ _ _ _ _ _ h => h), (FreeR.no _), ?_⟩
    refine ⟨_, true, (fun σ ι w1 hg hd hon => by
        have hN := hN.ofGr ((Gr.refl _).drew.trans hg)
        have hB8 := hB8.gr ((Gr.refl _).drew.trans hg)
        have hB9 := hB9.gr ((Gr.refl _).drew.trans hg)
        have hB10 := hB10.gr ((Gr.refl _).drew.trans hg)
        have hBR := hBR.gr ((Gr.refl _).drew.trans hg)
        have hOw := hOw.gr ((Gr.refl _).drew.trans hg)
        have f0 := hd 0 (by decide) _ rfl
        have f4 := hd 4 (by decide) _ rfl
        have e0 : σ 0 = _ := f0.1 trivial
        have e4 : σ 4 = _ := f4.1 trivial
        skip
        exact CallOK.sub (r := [(49, _), (53, _), (1, _), (5, _), (7, _), (8, _), (9, _), (10, _), (11, _), (12, _), (13, _)]) ⟨congrArg some e0, congrArg some e4, rfl, rfl, rfl, rfl, rfl, rfl, rfl, rfl, rfl, trivial⟩ (by
          exact CallOK.M (Φ := SΦ (wX key bs n (k + 1)) 0) (enters_of rfl rfl hb23) ((by have h := lsent_ret (x := wX key bs n k) (d := wMsg bs n k) (cd := cAA) hN.sat hx (wX_v (by omega)) hEA hlA; rw [(wX_send (by omega)).1, (wX_send (by omega)).2] at h; exact h)))
        ), (by exact monoOwn (J := K13) (Φ := fun _ => SΦ (wX key bs n (k + 1)) 0)), (fun _ _ _ _ _ _ h => h), ?_⟩
    refine ⟨_, false, (fun σ ι w1 hg hd hon => by
        exact OpOK.sub (r := [(1, _), (5, _), (7, _), (8, _), (9, _), (10, _), (11, _), (12, _), (13, _)]) ⟨rfl, rfl, rfl, rfl, rfl, rfl, rfl, rfl, rfl, trivial⟩ (by exact OpOK.alloc (cs := [.int .u64 0, .slice none 0 0, .int .i64 0, .slice none 0 0, .int .i64 0, .int .i64 0]) zv48 rfl)
        ), (by intro σ v q w w' hg h; obtain ⟨h1, h2, h3⟩ := h; exact ⟨h1, h2, h3.gr hg⟩), (FreeR.no _), ?_⟩
    intro σ ι a39 w16 hgw16 H42 hd hap
    skip
    have hN0 := hN
    have hN := hN.ofGr ((Gr.refl _).drew.trans hgw16)
    have hNd := (New.refl (hS0.drewS)).ofGr hgw16
    obtain ⟨K5, hP5, A5, c5, A6, c6, e5, hK5⟩ := (hd 5 (by decide) _ rfl).1 trivial
    replace hK5 := hK5.up (joinI_right hNd.sat hP5.sat)
    replace hNd := hNd.part hNd.le hP5 (hap.1 5 (by decide)).1
    replace hB8 := (hB8.gr (Gr.refl _).drew).next hNd
    replace hB9 := (hB9.gr (Gr.refl _).drew).next hNd
    replace hB10 := (hB10.gr (Gr.refl _).drew).next hNd
    replace hBR := (hBR.gr (Gr.refl _).drew).next hNd
    replace hOw := (hOw.gr (Gr.refl _).drew).next hNd
    replace hE5 := hE5.up hNd.le
    replace hx := hx.up hNd.le
    replace hEA := hEA.up hNd.le
    replace hleJ1 := hleJ1.trans hNd.le
    replace hszB := Nat.le_trans hszB hgw16.size
    have hN := hN0.drew.trans hNd
    obtain ⟨e6, hlqb14, hblb14⟩ := (hd 6 (by decide) _ rfl).1 trivial
    have hg0b14 := (hap.1 6 (by decide)).1
    have hJ0b14 := hS0.fresh hg0b14
    have hB14 : Box (joinI K13 K5) w16 _ ([.int .u64 0, .slice none 0 0, .int .i64 0, .slice none 0 0, .int .i64 0, .int .i64 0]) 48 := ⟨hblb14, (joinI_none hJ0b14 (hP5.none hJ0b14 (by have := hap.2 5 6 (by decide) (by decide) (by decide); omega)))⟩
    replace H42 := H42.sub (r := [(54, _), (14, _), (1, _), (5, _), (7, _), (8, _), (9, _), (10, _), (11, _), (12, _), (13, _)]) ⟨congrArg some e5, congrArg some e6, rfl, rfl, rfl, rfl, rfl, rfl, rfl, rfl, rfl, trivial⟩
    clear hd
    have hgeb14 := Nat.le_trans hNsz12 hg0b14
    clear hlqb14 hblb14 hJ0b14
    have hne_hB8_b14 := Nat.lt_of_lt_of_le hlt_hB8_12 hg0b14
    have hne_hB9_b14 := Nat.lt_of_lt_of_le hlt_hB9_12 hg0b14
    have hne_hB10_b14 := Nat.lt_of_lt_of_le hlt_hB10_12 hg0b14
    have hne_hBR_b14 := Nat.lt_of_lt_of_le hlt_hBR_12 hg0b14
    generalize (ι 6).1 = b14 at *
    clear hap
    refine s_storeA (vs := [_, _, _, _, _, _]) H42 sz48 (by simp) (by simp [Value.oneCell']) rfl rfl hN hB14 (by simp) hgeb14 fun w17 hN hB14 ew17 H43 => ?_
    clear H42
    replace hB8 := hB8.otherE ew17 (by omega)
    replace hB9 := hB9.otherE ew17 (by omega)
    replace hB10 := hB10.otherE ew17 (by omega)
    replace hBR := hBR.otherE ew17 (by omega)
    replace hOw := hOw.otherN ew17 (by simp [Value.ownBlock]; omega)
    replace hszB := sz_setB ew17 hszB
    simp only [Nat.zero_add, Nat.add_zero, Nat.reduceAdd, Nat.reduceMul, List.set_cons_zero, List.set_cons_succ, spliceL] at hB14
    clear ew17
    refine wl_end ?_
    refine th_n ?_
    refine wpIn_seq ?_
    refine wpIn_seq ?_
    refine w_reg ?_
    refine wl1 H43 (r_fld fld48_1 rfl) rfl rfl rfl rfl fun a40 H44 => ?_
    clear H43 a39
    refine wl1 H44 (r_load sc39 rfl (hB14.cell rfl)) rfl rfl rfl rfl fun a41 H45 => ?_
    clear H44 a40
    refine wl1 H45 (r_neq rfl rfl) rfl rfl rfl rfl fun a42 H46 => ?_
    clear H45 a41
    refine wl_end ?_
    refine th_n ?_
    first | refine w_if H46 rfl (fun hc57 => ?_) (fun hc57 => ?_) | refine w_cond H46 rfl (fun hc57 => ?_) (fun hc57 => ?_)
    ·
      exact absurd hc57 (by simp)
    ·
      try simp only [decide_eq_true_eq, decide_eq_false_iff_not, Bool.or_eq_true, Bool.and_eq_true, Bool.or_eq_false_iff, Bool.and_eq_false_iff, Bool.not_eq_true', Bool.not_eq_false', Int.not_lt, Int.not_le, ne_eq, Decidable.not_not] at hc57
      refine wpIn_skip ?_
      refine th_n ?_
      refine w_reg ?_
      refine wl1 H46 (r_fld fld48_0 rfl) rfl rfl rfl rfl fun a43 H47 => ?_
      clear H46 a42
      refine wl1 H47 (Box.loadO ag26 rfl hB14 (by simp)) rfl rfl rfl rfl fun a44 H48 => ?_
      clear H47 a43
      refine s_storeA (vs := [_, _, _, _, _]) H48 sz26 (by simp) (by simp [Value.oneCell']) rfl rfl hN hB8 (by simp) hgeb8 fun w18 hN hB8 ew18 H49 => ?_
      clear H48
      replace hB9 := hB9.otherE ew18 (by omega)
      replace hB10 := hB10.otherE ew18 (by omega)
      replace hBR := hBR.otherE ew18 (by omega)
      replace hB14 := hB14.otherE ew18 (by omega)
      replace hOw := hOw.otherE ew18 (by omega)
      replace hszB := sz_setB ew18 hszB
      simp only [Nat.zero_add, Nat.add_zero, Nat.reduceAdd, Nat.reduceMul, List.set_cons_zero, List.set_cons_succ, spliceL] at hB8
      clear ew18
      refine wl_end ?_
      refine bl_n ?_
      refine th_n ?_
      refine w_reg ?_
      refine wl1 H49 (r_move rfl) rfl rfl rfl rfl fun a45 H50 => ?_
      clear H49 a44
      first | refine wl1 H50 (r_addk rfl rfl (by simp only [InK]; omega)) rfl rfl rfl rfl fun a46 H51 => ?_ | refine wl1 H50 (r_add rfl rfl) rfl rfl rfl rfl fun a46 H51 => ?_
      clear H50 a45
      refine wl1 H51 (r_assign rfl) rfl rfl rfl rfl fun a47 H52 => ?_
      clear H51 a46
      refine wl_end ?_
      exact th_n ⟨((k + 1, _), (joinI K13 K5)), (by show M - (k + 1) < M - k; omega), H52.sub ⟨rfl, rfl, rfl, rfl, rfl, rfl, rfl, rfl, rfl, trivial⟩, hleJ1, hN, by show k + 1 ≤ M; omega, ⟨A5, c5, A6, c6, hB8, hK5⟩, hB9, hB10, hszB, .inl hOw⟩
  ·
    try simp only [decide_eq_true_eq, decide_eq_false_iff_not, Bool.or_eq_true, Bool.and_eq_true, Bool.or_eq_false_iff, Bool.and_eq_false_iff, Bool.not_eq_true', Bool.not_eq_false', Int.not_lt, Int.not_le, ne_eq, Decidable.not_not] at hc36
    refine wpIn_exit ?_
    refine th_x ?_
    refine th_x ?_
    refine bl_hit ?_
    refine th_n ?_
    refine wpIn_seq ?_
    refine wpIn_seq ?_
    refine w_reg ?_
    have hkM : k = M := by omega
    rw [hkM] at hO hB8 hx
    obtain ⟨Kz18, Aa, cAa, hN, hleKz18, hsmKz18, rfl, hcAa, hEa⟩ := hO.freeze hN hwB
    replace hB8 := hB8.same (hsmKz18 _ (by omega))
    replace hB9 := hB9.same (hsmKz18 _ (by omega))
    replace hB10 := hB10.same (hsmKz18 _ (by omega))
    replace hE5 := hE5.up hleKz18
    replace hx := hx.up hleKz18
    replace hleJ1 := hleJ1.trans hleKz18
    refine wl1 H30 (r_assign rfl) rfl rfl rfl rfl fun a28 H53 => ?_
    clear H30 a27
    have hz0 : wZ key bs n M 0 = wY key bs n 0 := if_pos (by omega)
    obtain ⟨Q1, Q2, q1, q2, hB8, hx⟩ : ∃ Q1 Q2 q1 q2, Box Kz18 w12 b8 [.int .u64 (wX key bs n M).key, .slice Q1 (wX key bs n M).out.length q1, .int .i64 (wX key bs n M).base, .slice Q2 (wX key bs n M).inn.length q2, .int .i64 (wX key bs n M).rcv] 26 ∧ LkAt Kz18 (wX key bs n M) Q1 q1 Q2 q2 := ⟨_, _, _, _, hB8, hx⟩
    have hxv : LkV (wX key bs n M) := wX_v (by omega)
    refine wl_end ?_
    refine th_n ?_
    refine wpIn_block ?_
    refine w_loop (ι := (Nat) × Im) (fun xJ => (fun x => [(15, .int .i64 (x : Int))]) xJ.1) (fun xJ W => Im.le Kz18 xJ.2 ∧ New I w xJ.2 W ∧ (fun x (J : Im) => x ≤ M ∧ Box J W b8 [.int .u64 (wX key bs n M).key, .slice Q1 (wX key bs n M).out.length q1, .int .i64 (wX key bs n M).base, .slice Q2 (wX key bs n M).inn.length q2, .int .i64 (wX key bs n M).rcv] 26 ∧ (∃ A1 c1 A2 c2, Box J W b9 [.int .u64 (wY key bs n x).key, .slice A1 (wY key bs n x).out.length c1, .int .i64 (wY key bs n x).base, .slice A2 (wY key bs n x).inn.length c2, .int .i64 (wY key bs n x).rcv] 26 ∧ LkAt J (wY key bs n x) A1 c1 A2 c2) ∧ (∃ A1 c1 A2 c2, Box J W b10 [.int .u64 (wZ key bs n M x).key, .slice A1 (wZ key bs n M x).out.length c1, .int .i64 (wZ key bs n M x).base, .slice A2 (wZ key bs n M x).inn.length c2, .int .i64 (wZ key bs n M x).rcv] 26 ∧ LkAt J (wZ key bs n M x) A1 c1 A2 c2)) xJ.1 xJ.2) (fun xJ => (fun x => M - x) xJ.1) (l0 := [(7, _), (8, _), (9, _), (10, _), (11, _), (12, _)]) (0, Kz18) H53 ⟨rfl, rfl, rfl, rfl, rfl, rfl, rfl, trivial⟩ ⟨Im.le.refl _, hN, Nat.zero_le _, hB8, ⟨none, 0, none, 0, hB9, lk_new _ (key1_in key)⟩, ⟨none, 0, none, 0, by rw [hz0]; exact hB10, by rw [hz0]; exact lk_new _ (key1_in key)⟩⟩ ?_
    rintro ⟨i, J20⟩ a29 w20 H54 ⟨hleJ2, hN, hi, hB8, ⟨A3, c3, A4, c4, hB9, hy⟩, ⟨A5, c5, A6, c6, hB10, hz⟩⟩
    clear H53 a28
    simp only [List.cons_append, List.nil_append] at H54
    try dsimp only at hleJ2
    try dsimp only at hN
    replace hE5 := hE5.up hleJ2
    replace hx := hx.up hleJ2
    replace hEa := hEa.up hleJ2
    replace hleJ1 := hleJ1.trans hleJ2
    simp only at hi hB8 hB9 hy hB10 hz H54
    try dsimp only at A3
    try dsimp only at A4
    try dsimp only at A5
    try dsimp only at A6
    try dsimp only at c3
    try dsimp only at c4
    try dsimp only at c5
    try dsimp only at c6
    try dsimp only at hB10
    try dsimp only at hB8
    try dsimp only at hB9
    try dsimp only at hi
    try dsimp only at hy
    try dsimp only at hz
    refine wpIn_seq ?_
    refine wpIn_seq ?_
    refine w_reg ?_
    refine wl1 H54 (r_move rfl) rfl rfl rfl rfl fun a30 H55 => ?_
    clear H54 a29
    refine wl1 H55 (r_move rfl) rfl rfl rfl rfl fun a31 H56 => ?_
    clear H55 a30
    refine wl1 H56 (r_lss rfl rfl) rfl rfl rfl rfl fun a32 H57 => ?_
    clear H56 a31
    refine wl_end ?_
    refine th_n ?_
    first | refine w_if H57 rfl (fun hc62 => ?_) (fun hc62 => ?_) | refine w_cond H57 rfl (fun hc62 => ?_) (fun hc62 => ?_)
    ·
      try simp only [decide_eq_true_eq, decide_eq_false_iff_not, Bool.or_eq_true, Bool.and_eq_true, Bool.or_eq_false_iff, Bool.and_eq_false_iff, Bool.not_eq_true', Bool.not_eq_false', Int.not_lt, Int.not_le, ne_eq, Decidable.not_not] at hc62
      have hiM : i < M := by omega
      refine wpIn_skip ?_
      refine th_n ?_
      refine wpIn_seq ?_
      refine wpIn_block ?_
      refine wpIn_seq ?_
      refine w_reg ?_
      refine wl1 H57 (r_loadA (cs := [_, _, _, _, _]) ag26 rfl hB8.agg) rfl rfl rfl rfl fun a33 H58 => ?_
      clear H57 a32
      refine wl1 H58 (r_move rfl) rfl rfl rfl rfl fun a34 H59 => ?_
      clear H58 a33
      refine wlc  H59 rfl rfl hb20 rfl ((by have h := lpacket_ret (x := wX key bs n M) (i := (i : Int)) hN.sat hx hxv (by simp only [InK]; omega); rw [(wX_pack hiM).1, (wX_pack hiM).2] at h; exact h)) fun v w21 hR a35 H60 => ?_
      clear H59 a34
      obtain ⟨J21, nw21, ⟨A16, c16, rfl, hp16⟩⟩ := hR
      replace hE5 := hE5.up nw21.le
      replace hx := hx.up nw21.le
      replace hEa := hEa.up nw21.le
      replace hy := hy.up nw21.le
      replace hz := hz.up nw21.le
      replace hB8 := hB8.next nw21
      replace hB9 := hB9.next nw21
      replace hB10 := hB10.next nw21
      replace hleJ1 := hleJ1.trans nw21.le
      replace hleJ2 := hleJ2.trans nw21.le
      have hN := hN.trans nw21
      refine s_alloc H60 zv44 rfl hN fun w22 b16 hN gw22 hB16 hgeb16 heb16 a36 H61 => ?_
      clear H60 a35
      replace hB16 : Box _ _ _ [.int .i64 0, .int .i64 0, .slice none 0 0, .int .u64 0, .int .i64 0] 44 := hB16
      have hne_hB8_b16 := hB8.lt
      rw [← heb16] at hne_hB8_b16
      have hne_hB9_b16 := hB9.lt
      rw [← heb16] at hne_hB9_b16
      have hne_hB10_b16 := hB10.lt
      rw [← heb16] at hne_hB10_b16
      replace hB8 := hB8.gr gw22
      replace hB9 := hB9.gr gw22
      replace hB10 := hB10.gr gw22
      refine s_storeA (vs := [_, _, _, _, _]) H61 sz44 (by simp) (by simp [Value.oneCell']) rfl rfl hN hB16 (by simp) hgeb16 fun w23 hN hB16 ew23 H62 => ?_
      clear H61
      replace hB8 := hB8.otherE ew23 (by omega)
      replace hB9 := hB9.otherE ew23 (by omega)
      replace hB10 := hB10.otherE ew23 (by omega)
      simp only [Nat.zero_add, Nat.add_zero, Nat.reduceAdd, Nat.reduceMul, List.set_cons_zero, List.set_cons_succ, spliceL] at hB16
      clear ew23
      refine wl_end ?_
      refine th_n ?_
      refine wpIn_seq ?_
      refine w_reg ?_
      refine wl1 H62 (r_loadA (cs := [_, _, _, _, _]) ag26 rfl hB8.agg) rfl rfl rfl rfl fun a37 H63 => ?_
      clear H62 a36
      refine wl1 H63 (r_move rfl) rfl rfl rfl rfl fun a38 H64 => ?_
      clear H63 a37
      first | refine wl1 H64 (r_subk rfl rfl (by simp only [InK]; omega)) rfl rfl rfl rfl fun a39 H65 => ?_ | refine wl1 H64 (r_sub rfl rfl) rfl rfl rfl rfl fun a39 H65 => ?_
      clear H64 a38
      refine wl1 H65 (r_move rfl) rfl rfl rfl rfl fun a40 H66 => ?_
      clear H65 a39
      first | refine wl1 H66 (r_subk rfl rfl (by simp only [InK]; omega)) rfl rfl rfl rfl fun a41 H67 => ?_ | refine wl1 H66 (r_sub rfl rfl) rfl rfl rfl rfl fun a41 H67 => ?_
      clear H66 a40
      rw [show (M : Int) - 1 - (i : Int) = ((M - 1 - i : Nat) : Int) by omega] at H67
      refine wlc  H67 rfl rfl hb20 rfl ((by have h := lpacket_ret (x := wX key bs n M) (i := ((M - 1 - i : Nat) : Int)) hN.sat hx hxv (by simp only [InK]; omega); rw [(wX_pack (show M - 1 - i < M by omega)).1, (wX_pack (show M - 1 - i < M by omega)).2] at h; exact h)) fun v w24 hR a42 H68 => ?_
      clear H67 a41
      obtain ⟨J24, nw24, ⟨A17, c17, rfl, hp17⟩⟩ := hR
      replace hE5 := hE5.up nw24.le
      replace hx := hx.up nw24.le
      replace hEa := hEa.up nw24.le
      replace hy := hy.up nw24.le
      replace hz := hz.up nw24.le
      replace hp16 := hp16.up nw24.le
      replace hB8 := hB8.next nw24
      replace hB9 := hB9.next nw24
      replace hB10 := hB10.next nw24
      replace hB16 := hB16.next nw24
      replace hleJ1 := hleJ1.trans nw24.le
      replace hleJ2 := hleJ2.trans nw24.le
      have hN := hN.trans nw24
      refine s_alloc H68 zv44 rfl hN fun w25 b17 hN gw25 hB17 hgeb17 heb17 a43 H69 => ?_
      clear H68 a42
      replace hB17 : Box _ _ _ [.int .i64 0, .int .i64 0, .slice none 0 0, .int .u64 0, .int .i64 0] 44 := hB17
      have hne_hB8_b17 := hB8.lt
      rw [← heb17] at hne_hB8_b17
      have hne_hB9_b17 := hB9.lt
      rw [← heb17] at hne_hB9_b17
      have hne_hB10_b17 := hB10.lt
      rw [← heb17] at hne_hB10_b17
      have hne_hB16_b17 := hB16.lt
      rw [← heb17] at hne_hB16_b17
      replace hB8 := hB8.gr gw25
      replace hB9 := hB9.gr gw25
      replace hB10 := hB10.gr gw25
      replace hB16 := hB16.gr gw25
      refine s_storeA (vs := [_, _, _, _, _]) H69 sz44 (by simp) (by simp [Value.oneCell']) rfl rfl hN hB17 (by simp) hgeb17 fun w26 hN hB17 ew26 H70 => ?_
      clear H69
      replace hB8 := hB8.otherE ew26 (by omega)
      replace hB9 := hB9.otherE ew26 (by omega)
      replace hB10 := hB10.otherE ew26 (by omega)
      replace hB16 := hB16.otherE ew26 (by omega)
      simp only [Nat.zero_add, Nat.add_zero, Nat.reduceAdd, Nat.reduceMul, List.set_cons_zero, List.set_cons_succ, spliceL] at hB17
      clear ew26
      refine wl_end ?_
      refine th_n ?_
      refine wpIn_seq ?_
      refine w_reg ?_
      refine wl1 H70 (r_loadA (cs := [_, _, _, _, _]) ag26 rfl hB9.agg) rfl rfl rfl rfl fun a44 H71 => ?_
      clear H70 a43
      refine wl1 H71 (r_fld fld44_0 rfl) rfl rfl rfl rfl fun a45 H72 => ?_
      clear H71 a44
      refine wl1 H72 (Box.loadO ag28 rfl hB16 (by simp)) rfl rfl rfl rfl fun a46 H73 => ?_
      clear H72 a45
      refine wlc  H73 rfl rfl hb25 rfl ((by have h := lreceived_ret (x := wY key bs n i) (p := wP key bs n M i) hN.sat hy (wY_v (by omega)) hp16; rw [(wY_next (by omega)).1, (wY_next (by omega)).2] at h; exact h)) fun v w27 hR a47 H74 => ?_
      clear H73 a46
      obtain ⟨J27, nw27, ⟨A18, c18, A28, c28, rfl, hr18⟩⟩ := hR
      replace hE5 := hE5.up nw27.le
      replace hx := hx.up nw27.le
      replace hEa := hEa.up nw27.le
      replace hy := hy.up nw27.le
      replace hz := hz.up nw27.le
      replace hp16 := hp16.up nw27.le
      replace hp17 := hp17.up nw27.le
      replace hB8 := hB8.next nw27
      replace hB9 := hB9.next nw27
      replace hB10 := hB10.next nw27
      replace hB16 := hB16.next nw27
      replace hB17 := hB17.next nw27
      replace hleJ1 := hleJ1.trans nw27.le
      replace hleJ2 := hleJ2.trans nw27.le
      have hN := hN.trans nw27
      refine s_alloc H74 zv48 rfl hN fun w28 b18 hN gw28 hB18 hgeb18 heb18 a48 H75 => ?_
      clear H74 a47
      replace hB18 : Box _ _ _ [.int .u64 0, .slice none 0 0, .int .i64 0, .slice none 0 0, .int .i64 0, .int .i64 0] 48 := hB18
      have hne_hB8_b18 := hB8.lt
      rw [← heb18] at hne_hB8_b18
      have hne_hB9_b18 := hB9.lt
      rw [← heb18] at hne_hB9_b18
      have hne_hB10_b18 := hB10.lt
      rw [← heb18] at hne_hB10_b18
      have hne_hB16_b18 := hB16.lt
      rw [← heb18] at hne_hB16_b18
      have hne_hB17_b18 := hB17.lt
      rw [← heb18] at hne_hB17_b18
      replace hB8 := hB8.gr gw28
      replace hB9 := hB9.gr gw28
      replace hB10 := hB10.gr gw28
      replace hB16 := hB16.gr gw28
      replace hB17 := hB17.gr gw28
      refine s_storeA (vs := [_, _, _, _, _, _]) H75 sz48 (by simp) (by simp [Value.oneCell']) rfl rfl hN hB18 (by simp) hgeb18 fun w29 hN hB18 ew29 H76 => ?_
      clear H75
      replace hB8 := hB8.otherE ew29 (by omega)
      replace hB9 := hB9.otherE ew29 (by omega)
      replace hB10 := hB10.otherE ew29 (by omega)
      replace hB16 := hB16.otherE ew29 (by omega)
      replace hB17 := hB17.otherE ew29 (by omega)
      simp only [Nat.zero_add, Nat.add_zero, Nat.reduceAdd, Nat.reduceMul, List.set_cons_zero, List.set_cons_succ, spliceL] at hB18
      clear ew29
      refine wl_end ?_
      refine th_n ?_
      refine wpIn_seq ?_
      refine w_reg ?_
      refine wl1 H76 (r_loadA (cs := [_, _, _, _, _]) ag26 rfl hB10.agg) rfl rfl rfl rfl fun a49 H77 => ?_
      clear H76 a48
      refine wl1 H77 (r_fld fld44_0 rfl) rfl rfl rfl rfl fun a50 H78 => ?_
      clear H77 a49
      refine wl1 H78 (Box.loadO ag28 rfl hB17 (by simp)) rfl rfl rfl rfl fun a51 H79 => ?_
      clear H78 a50
      refine wlc  H79 rfl rfl hb25 rfl ((by have h := lreceived_ret (x := wZ key bs n M i) (p := wP key bs n M (M - 1 - i)) hN.sat hz wZ_v hp17; rw [(wZ_step hiM).1, (wZ_step hiM).2] at h; exact h)) fun v w30 hR a52 H80 => ?_
      clear H79 a51
      obtain ⟨J30, nw30, ⟨A19, c19, A29, c29, rfl, hr19⟩⟩ := hR
      replace hE5 := hE5.up nw30.le
      replace hx := hx.up nw30.le
      replace hEa := hEa.up nw30.le
      replace hy := hy.up nw30.le
      replace hz := hz.up nw30.le
      replace hp16 := hp16.up nw30.le
      replace hp17 := hp17.up nw30.le
      replace hr18 := hr18.up nw30.le
      replace hB8 := hB8.next nw30
      replace hB9 := hB9.next nw30
      replace hB10 := hB10.next nw30
      replace hB16 := hB16.next nw30
      replace hB17 := hB17.next nw30
      replace hB18 := hB18.next nw30
      replace hleJ1 := hleJ1.trans nw30.le
      replace hleJ2 := hleJ2.trans nw30.le
      have hN := hN.trans nw30
      refine s_alloc H80 zv48 rfl hN fun w31 b19 hN gw31 hB19 hgeb19 heb19 a53 H81 => ?_
      clear H80 a52
      replace hB19 : Box _ _ _ [.int .u64 0, .slice none 0 0, .int .i64 0, .slice none 0 0, .int .i64 0, .int .i64 0] 48 := hB19
      have hne_hB8_b19 := hB8.lt
      rw [← heb19] at hne_hB8_b19
      have hne_hB9_b19 := hB9.lt
      rw [← heb19] at hne_hB9_b19
      have hne_hB10_b19 := hB10.lt
      rw [← heb19] at hne_hB10_b19
      have hne_hB16_b19 := hB16.lt
      rw [← heb19] at hne_hB16_b19
      have hne_hB17_b19 := hB17.lt
      rw [← heb19] at hne_hB17_b19
      have hne_hB18_b19 := hB18.lt
      rw [← heb19] at hne_hB18_b19
      replace hB8 := hB8.gr gw31
      replace hB9 := hB9.gr gw31
      replace hB10 := hB10.gr gw31
      replace hB16 := hB16.gr gw31
      replace hB17 := hB17.gr gw31
      replace hB18 := hB18.gr gw31
      refine s_storeA (vs := [_, _, _, _, _, _]) H81 sz48 (by simp) (by simp [Value.oneCell']) rfl rfl hN hB19 (by simp) hgeb19 fun w32 hN hB19 ew32 H82 => ?_
      clear H81
      replace hB8 := hB8.otherE ew32 (by omega)
      replace hB9 := hB9.otherE ew32 (by omega)
      replace hB10 := hB10.otherE ew32 (by omega)
      replace hB16 := hB16.otherE ew32 (by omega)
      replace hB17 := hB17.otherE ew32 (by omega)
      replace hB18 := hB18.otherE ew32 (by omega)
      simp only [Nat.zero_add, Nat.add_zero, Nat.reduceAdd, Nat.reduceMul, List.set_cons_zero, List.set_cons_succ, spliceL] at hB19
      clear ew32
      refine wl_end ?_
      refine th_n ?_
      refine wpIn_seq ?_
      refine wpIn_seq ?_
      refine w_reg ?_
      refine wl1 H82 (r_fld fld44_1 rfl) rfl rfl rfl rfl fun a54 H83 => ?_
      clear H82 a53
      refine wl1 H83 (r_load sc39 rfl (hB16.cell rfl)) rfl rfl rfl rfl fun a55 H84 => ?_
      clear H83 a54
      refine wl1 H84 (r_neq rfl rfl) rfl rfl rfl rfl fun a56 H85 => ?_
      clear H84 a55
      refine wl1 H85 (r_move rfl) rfl rfl rfl rfl fun a57 H86 => ?_
      clear H85 a56
      refine wl_split (t := 85) H86 rfl (fun hg23_3 H87 => ?_) (fun hg23_3 H87 => ?_)
      ·
        clear H86
        try simp only [decide_eq_true_eq, decide_eq_false_iff_not, Bool.or_eq_true, Bool.and_eq_true, Bool.or_eq_false_iff, Bool.and_eq_false_iff, Bool.not_eq_true', Bool.not_eq_false', Int.not_lt, Int.not_le, ne_eq, Decidable.not_not] at hg23_3
        exact absurd hg23_3 (by simp)
      ·
        clear H86
        try simp only [decide_eq_true_eq, decide_eq_false_iff_not, Bool.or_eq_true, Bool.and_eq_true, Bool.or_eq_false_iff, Bool.and_eq_false_iff, Bool.not_eq_true', Bool.not_eq_false', Int.not_lt, Int.not_le, ne_eq, Decidable.not_not] at hg23_3
        refine wl_on (d := 85) H87 rfl rfl rfl ?_
        refine wl1 H87 (r_fld fld44_1 rfl) rfl rfl rfl rfl fun a58 H88 => ?_
        clear H87 a57
        refine wl_on (d := 85) H88 rfl rfl rfl ?_
        refine wl1 H88 (r_load sc39 rfl (hB17.cell rfl)) rfl rfl rfl rfl fun a59 H89 => ?_
        clear H88 a58
        refine wl_on (d := 85) H89 rfl rfl rfl ?_
        refine wl1 H89 (r_neq rfl rfl) rfl rfl rfl rfl fun a60 H90 => ?_
        clear H89 a59
        refine wl1 H90 (r_pick_f rfl rfl) rfl rfl rfl rfl fun a61 H91 => ?_
        clear H90 a60
        refine wl1 H91 (r_move rfl) rfl rfl rfl rfl fun a62 H92 => ?_
        clear H91 a61
        refine wl_split (t := 90) H92 rfl (fun hg23_8 H93 => ?_) (fun hg23_8 H93 => ?_)
        ·
          clear H92
          try simp only [decide_eq_true_eq, decide_eq_false_iff_not, Bool.or_eq_true, Bool.and_eq_true, Bool.or_eq_false_iff, Bool.and_eq_false_iff, Bool.not_eq_true', Bool.not_eq_false', Int.not_lt, Int.not_le, ne_eq, Decidable.not_not] at hg23_8
          exact absurd hg23_8 (by simp)
        ·
          clear H92
          try simp only [decide_eq_true_eq, decide_eq_false_iff_not, Bool.or_eq_true, Bool.and_eq_true, Bool.or_eq_false_iff, Bool.and_eq_false_iff, Bool.not_eq_true', Bool.not_eq_false', Int.not_lt, Int.not_le, ne_eq, Decidable.not_not] at hg23_8
          refine wl_on (d := 90) H93 rfl rfl rfl ?_
          refine wl1 H93 (r_fld fld48_1 rfl) rfl rfl rfl rfl fun a63 H94 => ?_
          clear H93 a62
          refine wl_on (d := 90) H94 rfl rfl rfl ?_
          refine wl1 H94 (r_load sc39 rfl (hB18.cell rfl)) rfl rfl rfl rfl fun a64 H95 => ?_
          clear H94 a63
          refine wl_on (d := 90) H95 rfl rfl rfl ?_
          refine wl1 H95 (r_neq rfl rfl) rfl rfl rfl rfl fun a65 H96 => ?_
          clear H95 a64
          refine wl1 H96 (r_pick_f rfl rfl) rfl rfl rfl rfl fun a66 H97 => ?_
          clear H96 a65
          refine wl1 H97 (r_move rfl) rfl rfl rfl rfl fun a67 H98 => ?_
          clear H97 a66
          refine wl_split (t := 95) H98 rfl (fun hg23_13 H99 => ?_) (fun hg23_13 H99 => ?_)
          ·
            clear H98
            try simp only [decide_eq_true_eq, decide_eq_false_iff_not, Bool.or_eq_true, Bool.and_eq_true, Bool.or_eq_false_iff, Bool.and_eq_false_iff, Bool.not_eq_true', Bool.not_eq_false', Int.not_lt, Int.not_le, ne_eq, Decidable.not_not] at hg23_13
            exact absurd hg23_13 (by simp)
          ·
            clear H98
            try simp only [decide_eq_true_eq, decide_eq_false_iff_not, Bool.or_eq_true, Bool.and_eq_true, Bool.or_eq_false_iff, Bool.and_eq_false_iff, Bool.not_eq_true', Bool.not_eq_false', Int.not_lt, Int.not_le, ne_eq, Decidable.not_not] at hg23_13
            refine wl_on (d := 95) H99 rfl rfl rfl ?_
            refine wl1 H99 (r_fld fld48_1 rfl) rfl rfl rfl rfl fun a68 H100 => ?_
            clear H99 a67
            refine wl_on (d := 95) H100 rfl rfl rfl ?_
            refine wl1 H100 (r_load sc39 rfl (hB19.cell rfl)) rfl rfl rfl rfl fun a69 H101 => ?_
            clear H100 a68
            refine wl_on (d := 95) H101 rfl rfl rfl ?_
            refine wl1 H101 (r_neq rfl rfl) rfl rfl rfl rfl fun a70 H102 => ?_
            clear H101 a69
            refine wl1 H102 (r_pick_f rfl rfl) rfl rfl rfl rfl fun a71 H103 => ?_
            clear H102 a70
            refine wl_end ?_
            refine th_n ?_
            first | refine w_if H103 rfl (fun hc99 => ?_) (fun hc99 => ?_) | refine w_cond H103 rfl (fun hc99 => ?_) (fun hc99 => ?_)
            ·
              exact absurd hc99 (by simp)
            ·
              try simp only [decide_eq_true_eq, decide_eq_false_iff_not, Bool.or_eq_true, Bool.and_eq_true, Bool.or_eq_false_iff, Bool.and_eq_false_iff, Bool.not_eq_true', Bool.not_eq_false', Int.not_lt, Int.not_le, ne_eq, Decidable.not_not] at hc99
              refine wpIn_skip ?_
              refine th_n ?_
              refine wpIn_seq ?_
              refine w_reg ?_
              refine wl1 H103 (r_fld fld48_0 rfl) rfl rfl rfl rfl fun a72 H104 => ?_
              clear H103 a71
              refine wl1 H104 (Box.loadO ag26 rfl hB18 (by simp)) rfl rfl rfl rfl fun a73 H105 => ?_
              clear H104 a72
              refine s_storeA (vs := [_, _, _, _, _]) H105 sz26 (by simp) (by simp [Value.oneCell']) rfl rfl hN hB9 (by simp) hgeb9 fun w33 hN hB9 ew33 H106 => ?_
              clear H105
              replace hB8 := hB8.otherE ew33 (by omega)
              replace hB10 := hB10.otherE ew33 (by omega)
              replace hB16 := hB16.otherE ew33 (by omega)
              replace hB17 := hB17.otherE ew33 (by omega)
              replace hB18 := hB18.otherE ew33 (by omega)
              replace hB19 := hB19.otherE ew33 (by omega)
              simp only [Nat.zero_add, Nat.add_zero, Nat.reduceAdd, Nat.reduceMul, List.set_cons_zero, List.set_cons_succ, spliceL] at hB9
              clear ew33
              refine wl_end ?_
              refine th_n ?_
              refine w_reg ?_
              refine wl1 H106 (r_fld fld48_0 rfl) rfl rfl rfl rfl fun a74 H107 => ?_
              clear H106 a73
              refine wl1 H107 (Box.loadO ag26 rfl hB19 (by simp)) rfl rfl rfl rfl fun a75 H108 => ?_
              clear H107 a74
              refine s_storeA (vs := [_, _, _, _, _]) H108 sz26 (by simp) (by simp [Value.oneCell']) rfl rfl hN hB10 (by simp) hgeb10 fun w34 hN hB10 ew34 H109 => ?_
              clear H108
              replace hB8 := hB8.otherE ew34 (by omega)
              replace hB9 := hB9.otherE ew34 (by omega)
              replace hB16 := hB16.otherE ew34 (by omega)
              replace hB17 := hB17.otherE ew34 (by omega)
              replace hB18 := hB18.otherE ew34 (by omega)
              replace hB19 := hB19.otherE ew34 (by omega)
              simp only [Nat.zero_add, Nat.add_zero, Nat.reduceAdd, Nat.reduceMul, List.set_cons_zero, List.set_cons_succ, spliceL] at hB10
              clear ew34
              refine wl_end ?_
              refine bl_n ?_
              refine th_n ?_
              refine w_reg ?_
              refine wl1 H109 (r_move rfl) rfl rfl rfl rfl fun a76 H110 => ?_
              clear H109 a75
              first | refine wl1 H110 (r_addk rfl rfl (by simp only [InK]; omega)) rfl rfl rfl rfl fun a77 H111 => ?_ | refine wl1 H110 (r_add rfl rfl) rfl rfl rfl rfl fun a77 H111 => ?_
              clear H110 a76
              refine wl1 H111 (r_assign rfl) rfl rfl rfl rfl fun a78 H112 => ?_
              clear H111 a77
              refine wl_end ?_
              exact th_n ⟨(i + 1, J30), (by show M - (i + 1) < M - i; omega), H112.sub ⟨rfl, rfl, rfl, rfl, rfl, rfl, rfl, trivial⟩, hleJ2, hN, by omega, hB8, ⟨_, _, _, _, hB9, hr18⟩, ⟨_, _, _, _, hB10, hr19⟩⟩
    ·
      try simp only [decide_eq_true_eq, decide_eq_false_iff_not, Bool.or_eq_true, Bool.and_eq_true, Bool.or_eq_false_iff, Bool.and_eq_false_iff, Bool.not_eq_true', Bool.not_eq_false', Int.not_lt, Int.not_le, ne_eq, Decidable.not_not] at hc62
      refine wpIn_exit ?_
      refine th_x ?_
      refine th_x ?_
      refine bl_hit ?_
      refine th_n ?_
      refine wpIn_seq ?_
      have hiM : i = M := by omega
      rw [hiM] at hB9 hy hB10 hz
      have hzM : wZ key bs n M M = wY key bs n 1 := if_neg (by omega)
      rw [hzM] at hB10 hz
      have hS0 := hN.sat
      have hNsz27 := hN.gr.size
      refine w_drawE (m := 25) (l0 := [(7, _), (9, _), (10, _), (11, _), (12, _)]) hfol H57 ⟨rfl, rfl, rfl, rfl, rfl, trivial⟩ (by kernel_rfl) ?_
      refine ⟨_, false, (fun σ ι w1 hg hd hon => by
          exact OpOK.sub (r := [(7, _), (9, _), (10, _), (11, _), (12, _)]) ⟨rfl, rfl, rfl, rfl, rfl, trivial⟩ (by
            exact OpOK.eq (r_fld fld26_3 rfl))
          ), (fun _ _ _ _ _ _ h => h), (FreeR.no _), ?_⟩
      refine ⟨_, false, (fun σ ι w1 hg hd hon => by
          have hN := hN.ofGr ((Gr.refl _).drew.trans hg)
          have hB8 := hB8.gr ((Gr.refl _).drew.trans hg)
          have hB9 := hB9.gr ((Gr.refl _).drew.trans hg)
          have hB10 := hB10.gr ((Gr.refl _).drew.trans hg)
          have f0 := hd 0 (by decide) _ rfl
          have e0 : σ 0 = _ := f0.1 trivial
          exact OpOK.sub (r := [(104, _), (7, _), (9, _), (10, _), (11, _), (12, _)]) ⟨congrArg some e0, rfl, rfl, rfl, rfl, rfl, trivial⟩ (by
            exact OpOK.eq (r_load sc24 rfl (hB9.cell rfl)))
          ), (fun _ _ _ _ _ _ h => h), (FreeR.no _), ?_⟩
      refine ⟨_, false, (fun σ ι w1 hg hd hon => by
          exact OpOK.sub (r := [(7, _), (9, _), (10, _), (11, _), (12, _)]) ⟨rfl, rfl, rfl, rfl, rfl, trivial⟩ (by
            exact OpOK.eq (r_move rfl))
          ), (fun _ _ _ _ _ _ h => h), (FreeR.no _), ?_⟩
      refine ⟨_, true, (fun σ ι w1 hg hd hon => by
          have hN := hN.ofGr ((Gr.refl _).drew.trans hg)
          have hB8 := hB8.gr ((Gr.refl _).drew.trans hg)
          have hB9 := hB9.gr ((Gr.refl _).drew.trans hg)
          have hB10 := hB10.gr ((Gr.refl _).drew.trans hg)
          have f1 := hd 1 (by decide) _ rfl
          have f2 := hd 2 (by decide) _ rfl
          have e1 : σ 1 = _ := f1.1 trivial
          have e2 : σ 2 = _ := f2.1 trivial
          skip
          exact CallOK.sub (r := [(105, _), (106, _), (7, _), (9, _), (10, _), (11, _), (12, _)]) ⟨congrArg some e1, congrArg some e2, rfl, rfl, rfl, rfl, rfl, trivial⟩ (by
            exact CallOK.V (enters_of rfl rfl hb34) (by have hz9 := rsameall' (c := c4) (c2 := cAa) hN.sat hy.ie hEa rfl rfl; exact hz9))
          ), (fun _ _ _ _ _ _ h => h), (fun _ _ _ _ _ _ h => h), ?_⟩
      refine ⟨_, false, (fun σ ι w1 hg hd hon => by
          have f3 := hd 3 (by decide) _ rfl
          have e3 : σ 3 = _ := f3.1 trivial
          exact OpOK.sub (r := [(107, _), (7, _), (9, _), (10, _), (11, _), (12, _)]) ⟨congrArg some e3, rfl, rfl, rfl, rfl, rfl, trivial⟩ (by
            exact OpOK.eq (r_move rfl))
          ), (fun _ _ _ _ _ _ h => h), (FreeR.no _), ?_⟩
      refine ⟨_, false, (fun σ ι w1 hg hd hon => by
          have f4 := hd 4 (by decide) _ rfl
          have e4 : σ 4 = _ := f4.1 trivial
          have hgd : σ 4 = .bool true := hon
          have hgb := (f4.1 trivial : σ 4 = _).symm.trans hgd
          simp only [Value.bool.injEq] at hgb
          try simp only [decide_eq_true_eq, decide_eq_false_iff_not, Bool.or_eq_true, Bool.and_eq_true, Bool.or_eq_false_iff, Bool.and_eq_false_iff, Bool.not_eq_true', Bool.not_eq_false', Int.not_lt, Int.not_le, ne_eq, Decidable.not_not] at hgb
          exact OpOK.sub (r := [(7, _), (9, _), (10, _), (11, _), (12, _)]) ⟨rfl, rfl, rfl, rfl, rfl, trivial⟩ (by
            exact OpOK.eq (r_fld fld26_4 rfl))
          ), (fun _ _ _ _ _ _ h => h), (FreeR.no _), ?_⟩
      refine ⟨_, false, (fun σ ι w1 hg hd hon => by
          have hN := hN.ofGr ((Gr.refl _).drew.trans hg)
          have hB8 := hB8.gr ((Gr.refl _).drew.trans hg)
          have hB9 := hB9.gr ((Gr.refl _).drew.trans hg)
          have hB10 := hB10.gr ((Gr.refl _).drew.trans hg)
          have f5 := hd 5 (by decide) _ rfl
          have f4 := hd 4 (by decide) _ rfl
          have e5 : σ 5 = _ := f5.1 hon
          have e4 : σ 4 = _ := f4.1 trivial
          have hgd : σ 4 = .bool true := hon
          have hgb := (f4.1 trivial : σ 4 = _).symm.trans hgd
          simp only [Value.bool.injEq] at hgb
          try simp only [decide_eq_true_eq, decide_eq_false_iff_not, Bool.or_eq_true, Bool.and_eq_true, Bool.or_eq_false_iff, Bool.and_eq_false_iff, Bool.not_eq_true', Bool.not_eq_false', Int.not_lt, Int.not_le, ne_eq, Decidable.not_not] at hgb
          exact OpOK.sub (r := [(109, _), (7, _), (9, _), (10, _), (11, _), (12, _)]) ⟨congrArg some e5, rfl, rfl, rfl, rfl, rfl, trivial⟩ (by
            exact OpOK.eq (r_load sc3 rfl (hB9.cell rfl)))
          ), (fun _ _ _ _ _ _ h => h), (FreeR.no _), ?_⟩
      refine ⟨_, false, (fun σ ι w1 hg hd hon => by
          have f4 := hd 4 (by decide) _ rfl
          have e4 : σ 4 = _ := f4.1 trivial
          have hgd : σ 4 = .bool true := hon
          have hgb := (f4.1 trivial : σ 4 = _).symm.trans hgd
          simp only [Value.bool.injEq] at hgb
          try simp only [decide_eq_true_eq, decide_eq_false_iff_not, Bool.or_eq_true, Bool.and_eq_true, Bool.or_eq_false_iff, Bool.and_eq_false_iff, Bool.not_eq_true', Bool.not_eq_false', Int.not_lt, Int.not_le, ne_eq, Decidable.not_not] at hgb
          exact OpOK.sub (r := [(7, _), (9, _), (10, _), (11, _), (12, _)]) ⟨rfl, rfl, rfl, rfl, rfl, trivial⟩ (by
            exact OpOK.eq (r_move rfl))
          ), (fun _ _ _ _ _ _ h => h), (FreeR.no _), ?_⟩
      refine ⟨_, false, (fun σ ι w1 hg hd hon => by
          have f6 := hd 6 (by decide) _ rfl
          have f7 := hd 7 (by decide) _ rfl
          have f4 := hd 4 (by decide) _ rfl
          have e6 : σ 6 = _ := f6.1 hon
          have e7 : σ 7 = _ := f7.1 hon
          have e4 : σ 4 = _ := f4.1 trivial
          have hgd : σ 4 = .bool true := hon
          have hgb := (f4.1 trivial : σ 4 = _).symm.trans hgd
          simp only [Value.bool.injEq] at hgb
          try simp only [decide_eq_true_eq, decide_eq_false_iff_not, Bool.or_eq_true, Bool.and_eq_true, Bool.or_eq_false_iff, Bool.and_eq_false_iff, Bool.not_eq_true', Bool.not_eq_false', Int.not_lt, Int.not_le, ne_eq, Decidable.not_not] at hgb
          exact OpOK.sub (r := [(110, _), (111, _), (7, _), (9, _), (10, _), (11, _), (12, _)]) ⟨congrArg some e6, congrArg some e7, rfl, rfl, rfl, rfl, rfl, trivial⟩ (by
            exact OpOK.eq (r_eql rfl rfl))
          ), (fun _ _ _ _ _ _ h => h), (FreeR.no _), ?_⟩
      refine ⟨_, false, (fun σ ι w1 hg hd hon => by
          have f4 := hd 4 (by decide) _ rfl
          have f8 := hd 8 (by decide) _ rfl
          have e4 : σ 4 = _ := f4.1 trivial
          have ec : σ 4 = _ := f4.1 trivial
          exact OpOK.id (by refine OpOK.and (dc := 108) (dy := 112) (kc := σ 4) (ky := σ 8) ?_ ?_ ec (fun hb => f8.1 (by show σ 4 = _; rw [ec]; exact congrArg Value.bool hb)) <;> rfl)
          ), (fun _ _ _ _ _ _ h => h), (FreeR.no _), ?_⟩
      refine ⟨_, false, (fun σ ι w1 hg hd hon => by
          have f9 := hd 9 (by decide) _ rfl
          have e9 : σ 9 = _ := f9.1 trivial
          exact OpOK.sub (r := [(113, _), (7, _), (9, _), (10, _), (11, _), (12, _)]) ⟨congrArg some e9, rfl, rfl, rfl, rfl, rfl, trivial⟩ (by
            exact OpOK.eq (r_move rfl))
          ), (fun _ _ _ _ _ _ h => h), (FreeR.no _), ?_⟩
      refine ⟨_, false, (fun σ ι w1 hg hd hon => by
          have f10 := hd 10 (by decide) _ rfl
          have e10 : σ 10 = _ := f10.1 trivial
          have hgd : σ 10 = .bool true := hon
          have hgb := (f10.1 trivial : σ 10 = _).symm.trans hgd
          simp only [Value.bool.injEq] at hgb
          try simp only [decide_eq_true_eq, decide_eq_false_iff_not, Bool.or_eq_true, Bool.and_eq_true, Bool.or_eq_false_iff, Bool.and_eq_false_iff, Bool.not_eq_true', Bool.not_eq_false', Int.not_lt, Int.not_le, ne_eq, Decidable.not_not] at hgb
          exact OpOK.sub (r := [(7, _), (9, _), (10, _), (11, _), (12, _)]) ⟨rfl, rfl, rfl, rfl, rfl, trivial⟩ (by
            exact OpOK.eq (r_fld fld26_3 rfl))
          ), (fun _ _ _ _ _ _ h => h), (FreeR.no _), ?_⟩
      refine ⟨_, false, (fun σ ι w1 hg hd hon => by
          have hN := hN.ofGr ((Gr.refl _).drew.trans hg)
          have hB8 := hB8.gr ((Gr.refl _).drew.trans hg)
          have hB9 := hB9.gr ((Gr.refl _).drew.trans hg)
          have hB10 := hB10.gr ((Gr.refl _).drew.trans hg)
          have f11 := hd 11 (by decide) _ rfl
          have f10 := hd 10 (by decide) _ rfl
          have e11 : σ 11 = _ := f11.1 hon
          have e10 : σ 10 = _ := f10.1 trivial
          have hgd : σ 10 = .bool true := hon
          have hgb := (f10.1 trivial : σ 10 = _).symm.trans hgd
          simp only [Value.bool.injEq] at hgb
          try simp only [decide_eq_true_eq, decide_eq_false_iff_not, Bool.or_eq_true, Bool.and_eq_true, Bool.or_eq_false_iff, Bool.and_eq_false_iff, Bool.not_eq_true', Bool.not_eq_false', Int.not_lt, Int.not_le, ne_eq, Decidable.not_not] at hgb
          exact OpOK.sub (r := [(115, _), (7, _), (9, _), (10, _), (11, _), (12, _)]) ⟨congrArg some e11, rfl, rfl, rfl, rfl, rfl, trivial⟩ (by
            exact OpOK.eq (r_load sc24 rfl (hB10.cell rfl)))
          ), (fun _ _ _ _ _ _ h => h), (FreeR.no _), ?_⟩
      refine ⟨_, false, (fun σ ι w1 hg hd hon => by
          have f10 := hd 10 (by decide) _ rfl
          have e10 : σ 10 = _ := f10.1 trivial
          have hgd : σ 10 = .bool true := hon
          have hgb := (f10.1 trivial : σ 10 = _).symm.trans hgd
          simp only [Value.bool.injEq] at hgb
          try simp only [decide_eq_true_eq, decide_eq_false_iff_not, Bool.or_eq_true, Bool.and_eq_true, Bool.or_eq_false_iff, Bool.and_eq_false_iff, Bool.not_eq_true', Bool.not_eq_false', Int.not_lt, Int.not_le, ne_eq, Decidable.not_not] at hgb
          exact OpOK.sub (r := [(7, _), (9, _), (10, _), (11, _), (12, _)]) ⟨rfl, rfl, rfl, rfl, rfl, trivial⟩ (by
            exact OpOK.eq (r_move rfl))
          ), (fun _ _ _ _ _ _ h => h), (FreeR.no _), ?_⟩
      refine ⟨_, false, (fun σ ι w1 hg hd hon => by
          have f13 := hd 13 (by decide) _ rfl
          have f10 := hd 10 (by decide) _ rfl
          have e13 : σ 13 = _ := f13.1 hon
          have e10 : σ 10 = _ := f10.1 trivial
          have hgd : σ 10 = .bool true := hon
          have hgb := (f10.1 trivial : σ 10 = _).symm.trans hgd
          simp only [Value.bool.injEq] at hgb
          try simp only [decide_eq_true_eq, decide_eq_false_iff_not, Bool.or_eq_true, Bool.and_eq_true, Bool.or_eq_false_iff, Bool.and_eq_false_iff, Bool.not_eq_true', Bool.not_eq_false', Int.not_lt, Int.not_le, ne_eq, Decidable.not_not] at hgb
          exact OpOK.sub (r := [(117, _), (7, _), (9, _), (10, _), (11, _), (12, _)]) ⟨congrArg some e13, rfl, rfl, rfl, rfl, rfl, trivial⟩ (by
            exact OpOK.eq (r_upto (hi := 1) Try.underlying24 sz23 rfl rfl rfl (by rw [wAll_len] at hcAa; omega)))
          ), (fun _ _ _ _ _ _ h => h), (FreeR.no _), ?_⟩
      refine ⟨_, true, (fun σ ι w1 hg hd hon => by
          have hN := hN.ofGr ((Gr.refl _).drew.trans hg)
          have hB8 := hB8.gr ((Gr.refl _).drew.trans hg)
          have hB9 := hB9.gr ((Gr.refl _).drew.trans hg)
          have hB10 := hB10.gr ((Gr.refl _).drew.trans hg)
          have f12 := hd 12 (by decide) _ rfl
          have f14 := hd 14 (by decide) _ rfl
          have f10 := hd 10 (by decide) _ rfl
          have e12 : σ 12 = _ := f12.1 hon
          have e14 : σ 14 = _ := f14.1 hon
          have e10 : σ 10 = _ := f10.1 trivial
          have hgd : σ 10 = .bool true := hon
          have hgb := (f10.1 trivial : σ 10 = _).symm.trans hgd
          simp only [Value.bool.injEq] at hgb
          try simp only [decide_eq_true_eq, decide_eq_false_iff_not, Bool.or_eq_true, Bool.and_eq_true, Bool.or_eq_false_iff, Bool.and_eq_false_iff, Bool.not_eq_true', Bool.not_eq_false', Int.not_lt, Int.not_le, ne_eq, Decidable.not_not] at hgb
          skip
          exact CallOK.sub (r := [(116, _), (118, _), (7, _), (9, _), (10, _), (11, _), (12, _)]) ⟨congrArg some e12, congrArg some e14, rfl, rfl, rfl, rfl, rfl, trivial⟩ (by
            exact CallOK.V (enters_of rfl rfl hb34) (by have hz9 := rsameall' (m := (wAll bs n M).take 1) (c := c6) (c2 := cAa) (n2 := 1) hN.sat hz.ie (hEa.take _) rfl (by simp [wAll_len]; omega); exact hz9))
          ), (fun _ _ _ _ _ _ h => h), (fun _ _ _ _ _ _ h => h), ?_⟩
      refine ⟨_, false, (fun σ ι w1 hg hd hon => by
          have f10 := hd 10 (by decide) _ rfl
          have f15 := hd 15 (by decide) _ rfl
          have e10 : σ 10 = _ := f10.1 trivial
          have ec : σ 10 = _ := f10.1 trivial
          exact OpOK.id (by refine OpOK.and (dc := 114) (dy := 119) (kc := σ 10) (ky := σ 15) ?_ ?_ ec (fun hb => f15.1 (by show σ 10 = _; rw [ec]; exact congrArg Value.bool hb)) <;> rfl)
          ), (fun _ _ _ _ _ _ h => h), (FreeR.no _), ?_⟩
      refine ⟨_, false, (fun σ ι w1 hg hd hon => by
          have f16 := hd 16 (by decide) _ rfl
          have e16 : σ 16 = _ := f16.1 trivial
          exact OpOK.sub (r := [(120, _), (7, _), (9, _), (10, _), (11, _), (12, _)]) ⟨congrArg some e16, rfl, rfl, rfl, rfl, rfl, trivial⟩ (by
            exact OpOK.eq (r_move rfl))
          ), (fun _ _ _ _ _ _ h => h), (FreeR.no _), ?_⟩
      refine ⟨_, false, (fun σ ι w1 hg hd hon => by
          have f17 := hd 17 (by decide) _ rfl
          have e17 : σ 17 = _ := f17.1 trivial
          have hgd : σ 17 = .bool true := hon
          have hgb := (f17.1 trivial : σ 17 = _).symm.trans hgd
          simp only [Value.bool.injEq] at hgb
          try simp only [decide_eq_true_eq, decide_eq_false_iff_not, Bool.or_eq_true, Bool.and_eq_true, Bool.or_eq_false_iff, Bool.and_eq_false_iff, Bool.not_eq_true', Bool.not_eq_false', Int.not_lt, Int.not_le, ne_eq, Decidable.not_not] at hgb
          exact OpOK.sub (r := [(7, _), (9, _), (10, _), (11, _), (12, _)]) ⟨rfl, rfl, rfl, rfl, rfl, trivial⟩ (by
            exact OpOK.eq (r_fld fld26_4 rfl))
          ), (fun _ _ _ _ _ _ h => h), (FreeR.no _), ?_⟩
      refine ⟨_, false, (fun σ ι w1 hg hd hon => by
          have hN := hN.ofGr ((Gr.refl _).drew.trans hg)
          have hB8 := hB8.gr ((Gr.refl _).drew.trans hg)
          have hB9 := hB9.gr ((Gr.refl _).drew.trans hg)
          have hB10 := hB10.gr ((Gr.refl _).drew.trans hg)
          have f18 := hd 18 (by decide) _ rfl
          have f17 := hd 17 (by decide) _ rfl
          have e18 : σ 18 = _ := f18.1 hon
          have e17 : σ 17 = _ := f17.1 trivial
          have hgd : σ 17 = .bool true := hon
          have hgb := (f17.1 trivial : σ 17 = _).symm.trans hgd
          simp only [Value.bool.injEq] at hgb
          try simp only [decide_eq_true_eq, decide_eq_false_iff_not, Bool.or_eq_true, Bool.and_eq_true, Bool.or_eq_false_iff, Bool.and_eq_false_iff, Bool.not_eq_true', Bool.not_eq_false', Int.not_lt, Int.not_le, ne_eq, Decidable.not_not] at hgb
          exact OpOK.sub (r := [(122, _), (7, _), (9, _), (10, _), (11, _), (12, _)]) ⟨congrArg some e18, rfl, rfl, rfl, rfl, rfl, trivial⟩ (by
            exact OpOK.eq (r_load sc3 rfl (hB10.cell rfl)))
          ), (fun _ _ _ _ _ _ h => h), (FreeR.no _), ?_⟩
      refine ⟨_, false, (fun σ ι w1 hg hd hon => by
          have f19 := hd 19 (by decide) _ rfl
          have f17 := hd 17 (by decide) _ rfl
          have e19 : σ 19 = _ := f19.1 hon
          have e17 : σ 17 = _ := f17.1 trivial
          have hgd : σ 17 = .bool true := hon
          have hgb := (f17.1 trivial : σ 17 = _).symm.trans hgd
          simp only [Value.bool.injEq] at hgb
          try simp only [decide_eq_true_eq, decide_eq_false_iff_not, Bool.or_eq_true, Bool.and_eq_true, Bool.or_eq_false_iff, Bool.and_eq_false_iff, Bool.not_eq_true', Bool.not_eq_false', Int.not_lt, Int.not_le, ne_eq, Decidable.not_not] at hgb
          exact OpOK.sub (r := [(123, _), (7, _), (9, _), (10, _), (11, _), (12, _)]) ⟨congrArg some e19, rfl, rfl, rfl, rfl, rfl, trivial⟩ (by
            exact OpOK.eq (r_eql rfl rfl))
          ), (fun _ _ _ _ _ _ h => h), (FreeR.no _), ?_⟩
      refine ⟨_, false, (fun σ ι w1 hg hd hon => by
          have f17 := hd 17 (by decide) _ rfl
          have f20 := hd 20 (by decide) _ rfl
          have e17 : σ 17 = _ := f17.1 trivial
          have ec : σ 17 = _ := f17.1 trivial
          exact OpOK.id (by refine OpOK.and (dc := 121) (dy := 124) (kc := σ 17) (ky := σ 20) ?_ ?_ ec (fun hb => f20.1 (by show σ 17 = _; rw [ec]; exact congrArg Value.bool hb)) <;> rfl)
          ), (fun _ _ _ _ _ _ h => h), (FreeR.no _), ?_⟩
      refine ⟨_, false, (fun σ ι w1 hg hd hon => by
          have f21 := hd 21 (by decide) _ rfl
          have e21 : σ 21 = _ := f21.1 trivial
          exact OpOK.sub (r := [(125, _), (7, _), (9, _), (10, _), (11, _), (12, _)]) ⟨congrArg some e21, rfl, rfl, rfl, rfl, rfl, trivial⟩ (by
            exact OpOK.eq (r_move rfl))
          ), (fun _ _ _ _ _ _ h => h), (FreeR.no _), ?_⟩
      refine ⟨_, false, (fun σ ι w1 hg hd hon => by
          have f22 := hd 22 (by decide) _ rfl
          have e22 : σ 22 = _ := f22.1 trivial
          have hgd : σ 22 = .bool true := hon
          have hgb := (f22.1 trivial : σ 22 = _).symm.trans hgd
          simp only [Value.bool.injEq] at hgb
          try simp only [decide_eq_true_eq, decide_eq_false_iff_not, Bool.or_eq_true, Bool.and_eq_true, Bool.or_eq_false_iff, Bool.and_eq_false_iff, Bool.not_eq_true', Bool.not_eq_false', Int.not_lt, Int.not_le, ne_eq, Decidable.not_not] at hgb
          exact OpOK.sub (r := [(7, _), (9, _), (10, _), (11, _), (12, _)]) ⟨rfl, rfl, rfl, rfl, rfl, trivial⟩ (by
            exact OpOK.eq (r_move rfl))
          ), (fun _ _ _ _ _ _ h => h), (FreeR.no _), ?_⟩
      refine ⟨_, false, (fun σ ι w1 hg hd hon => by
          have f22 := hd 22 (by decide) _ rfl
          have f23 := hd 23 (by decide) _ rfl
          have e22 : σ 22 = _ := f22.1 trivial
          have ec : σ 22 = _ := f22.1 trivial
          exact OpOK.id (by refine OpOK.and (dc := 126) (dy := 127) (kc := σ 22) (ky := σ 23) ?_ ?_ ec (fun hb => f23.1 (by show σ 22 = _; rw [ec]; exact congrArg Value.bool hb)) <;> rfl)
          ), (fun _ _ _ _ _ _ h => h), (FreeR.no _), ?_⟩
      intro σ ι a33 w36 hgw36 H113 hd hap
      skip
      have hN0 := hN
      have hN := hN.ofGr ((Gr.refl _).drew.trans hgw36)
      replace hB8 := hB8.gr ((Gr.refl _).drew.trans hgw36)
      replace hB9 := hB9.gr ((Gr.refl _).drew.trans hgw36)
      replace hB10 := hB10.gr ((Gr.refl _).drew.trans hgw36)
      have e24 : σ 24 = _ := (hd 24 (by decide) _ rfl).1 trivial
      replace H113 := H113.sub (r := [(128, _), (7, _), (9, _), (10, _), (11, _), (12, _)]) ⟨congrArg some e24, rfl, rfl, rfl, rfl, rfl, trivial⟩
      clear hd
      clear hap
      refine wl1 H113 (r_assign rfl) rfl rfl rfl rfl fun a34 H114 => ?_
      clear H113 a33
      refine wl_end ?_
      refine th_n ?_
      refine wpIn_ret ?_
      refine fin_r H114 (res1 rfl H114 rfl) ?_
      refine ⟨congrArg Value.bool ?_, hN.gr⟩
      simp [wY, wAll, ← List.map_take, List.take_range, Nat.min_eq_left hM1]
end Go.Proofs.Ytjjpaghloaggeaa
