/- Send, Take, Receive. -/
import Derived.Test.YtjjpaghloaggeaaTrD
set_option linter.unusedVariables false
set_option linter.unusedSimpArgs false
namespace Go.Proofs.Ytjjpaghloaggeaa
open Go.RowKit


def SentPost (I : Im) (w : World) (x : Lk) (e : Int) (v : Value) (w' : World) : Prop := ∃ J, New I w J w' ∧ ∃ A1 c1 A2 c2, v = .agg #[.int .u64 x.key, .slice A1 x.out.length c1, .int .i64 x.base, .slice A2 x.inn.length c2, .int .i64 x.rcv, .int .i64 e] ∧ LkAt J x A1 c1 A2 c2
def TakePost (I : Im) (w : World) (d : List Int) (x : Lk) (e : Int) (v : Value) (w' : World) : Prop := ∃ J, New I w J w' ∧ ∃ D cd A1 c1 A2 c2, v = .tuple #[.slice D d.length cd, .agg #[.int .u64 x.key, .slice A1 x.out.length c1, .int .i64 x.base, .slice A2 x.inn.length c2, .int .i64 x.rcv], .int .i64 e] ∧ d.length ≤ cd ∧ Els (kInt .u8) J D d ∧ LkAt J x A1 c1 A2 c2
def TakenPost (I : Im) (w : World) (d : List Int) (x : Lk) (e : Int) (v : Value) (w' : World) : Prop := ∃ J, New I w J w' ∧ ∃ D cd A1 c1 A2 c2, v = .agg #[.slice D d.length cd, .int .u64 x.key, .slice A1 x.out.length c1, .int .i64 x.base, .slice A2 x.inn.length c2, .int .i64 x.rcv, .int .i64 e] ∧ d.length ≤ cd ∧ Els (kInt .u8) J D d ∧ LkAt J x A1 c1 A2 c2
theorem ltakeD_cons {x : Lk} (h : ¬ x.inn.length = 0) : ltakeD x = x.inn[0]'(by omega) := by
  obtain ⟨k, o, b, i, r⟩ := x
  cases i with
  | nil => exact absurd rfl h
  | cons a l => rfl

set_option maxRecDepth 100000 in
set_option maxHeartbeats 400000 in
theorem send_ret {A1 A2 : Option Addr} {c1 c2 : Nat} {x : Lk} {D : Option Addr} {cd : Nat} {d : List Int} {I : Im} {w : World} (hS : Sat I w) (hL : LkAt I x A1 c1 A2 c2) (hv : LkV x) (hD : Els (kInt .u8) I D d) (hdc : d.length ≤ cd) :
    Ret Try.prog 42 [.agg #[.int .u64 x.key, .slice A1 x.out.length c1, .int .i64 x.base, .slice A2 x.inn.length c2, .int .i64 x.rcv], .slice D d.length cd] w (LinkPost I w (lsend x d) (lsendE x d)) := by
  have hv1 := hv.o
  have hv2 := hv.b0
  have hv3 := hv.b1
  have hv4 := hv.i
  have hv5 := hv.r0
  have hv6 := hv.r1
  refine ret_of (N := 30) Try.func42 rfl rfl rfl fun a0 H0 => ?_
  have hN := New.refl hS
  simp only [argsEnv, Nat.zero_add, Nat.reduceAdd] at H0
  refine wpIn_seq ?_
  refine w_reg ?_
  refine s_box H0 rfl rfl hN fun w1 b2 hN gw1 hB2 hgeb2 heb2 a1 H1 => ?_
  clear H0 a0
  replace hB2 : Box _ _ _ [_, _, _, _, _] 26 := hB2
  refine s_box H1 rfl rfl hN fun w2 b3 hN gw2 hB3 hgeb3 heb3 a2 H2 => ?_
  clear H1 a1
  replace hB3 : Box _ _ _ [_] 23 := hB3
  have hne_hB2_b3 := hB2.lt
  rw [← heb3] at hne_hB2_b3
  replace hB2 := hB2.gr gw2
  refine s_alloc H2 zv26 rfl hN fun w3 b4 hN gw3 hB4 hgeb4 heb4 a3 H3 => ?_
  clear H2 a2
  replace hB4 : Box _ _ _ [.int .u64 0, .slice none 0 0, .int .i64 0, .slice none 0 0, .int .i64 0] 26 := hB4
  have hne_hB2_b4 := hB2.lt
  rw [← heb4] at hne_hB2_b4
  have hne_hB3_b4 := hB3.lt
  rw [← heb4] at hne_hB3_b4
  replace hB2 := hB2.gr gw3
  replace hB3 := hB3.gr gw3
  refine wl1 H3 (r_assign rfl) rfl rfl rfl rfl fun a4 H4 => ?_
  clear H3 a3
  refine wl_end ?_
  refine th_n ?_
  refine wpIn_seq ?_
  refine wpIn_seq ?_
  refine w_reg ?_
  refine wl1 H4 (r_load sc23 rfl (hB3.cell rfl)) rfl rfl rfl rfl fun a5 H5 => ?_
  clear H4 a4
  refine wl1 H5 (r_len Try.underlying23 rfl) rfl rfl rfl rfl fun a6 H6 => ?_
  clear H5 a5
  refine wl1 H6 (r_gtr rfl rfl) rfl rfl rfl rfl fun a7 H7 => ?_
  clear H6 a6
  refine wl1 H7 (r_move rfl) rfl rfl rfl rfl fun a8 H8 => ?_
  clear H7 a7
  refine wl_split (t := 9) H8 rfl (fun hg1_3 H9 => ?_) (fun hg1_3 H9 => ?_)
  ·
    clear H8
    try simp only [decide_eq_true_eq, decide_eq_false_iff_not, Bool.or_eq_true, Bool.and_eq_true, Bool.or_eq_false_iff, Bool.and_eq_false_iff, Bool.not_eq_true', Bool.not_eq_false', Int.not_lt, Int.not_le, ne_eq, Decidable.not_not] at hg1_3
    refine wl_off (d := 9) H9 rfl rfl rfl rfl rfl rfl fun a9 H10 => ?_
    clear H9 a8
    refine wl_off (d := 9) H10 rfl rfl rfl rfl rfl rfl fun a10 H11 => ?_
    clear H10 a9
    refine wl_off (d := 9) H11 rfl rfl rfl rfl rfl rfl fun a11 H12 => ?_
    clear H11 a10
    refine wl_off (d := 9) H12 rfl rfl rfl rfl rfl rfl fun a12 H13 => ?_
    clear H12 a11
    refine wl1 H13 (r_pick_t rfl rfl) rfl rfl rfl rfl fun a13 H14 => ?_
    clear H13 a12
    refine wl1 H14 (r_move rfl) rfl rfl rfl rfl fun a14 H15 => ?_
    clear H14 a13
    refine wl_off (d := 15) H15 rfl rfl rfl rfl rfl rfl fun a15 H16 => ?_
    clear H15 a14
    refine wl_off (d := 15) H16 rfl rfl rfl rfl rfl rfl fun a16 H17 => ?_
    clear H16 a15
    refine wl_off (d := 15) H17 rfl rfl rfl rfl rfl rfl fun a17 H18 => ?_
    clear H17 a16
    refine wl_off (d := 15) H18 rfl rfl rfl rfl rfl rfl fun a18 H19 => ?_
    clear H18 a17
    refine wl_off (d := 15) H19 rfl rfl rfl rfl rfl rfl fun a19 H20 => ?_
    clear H19 a18
    refine wl_off (d := 15) H20 rfl rfl rfl rfl rfl rfl fun a20 H21 => ?_
    clear H20 a19
    refine wl_off (d := 15) H21 rfl rfl rfl rfl rfl rfl fun a21 H22 => ?_
    clear H21 a20
    refine wl1 H22 (r_pick_t rfl rfl) rfl rfl rfl rfl fun a22 H23 => ?_
    clear H22 a21
    refine wl_end ?_
    refine th_n ?_
    refine w_tt H23 rfl rfl ?_
    refine wpIn_seq ?_
    refine w_reg ?_
    refine wl1 H23 (r_build (v := .agg #[.int .u64 0, .slice none 0 0, .int .i64 0, .slice none 0 0, .int .i64 0]) rfl (fun w => by kernel_rfl)) rfl rfl rfl rfl fun a23 H24 => ?_
    clear H23 a22
    refine s_storeA (vs := [_, _, _, _, _]) H24 sz26 (by simp) (by simp [Value.oneCell']) rfl rfl hN hB4 (by simp) hgeb4 fun w4 hN hB4 ew4 H25 => ?_
    clear H24
    replace hB2 := hB2.otherE ew4 (by omega)
    replace hB3 := hB3.otherE ew4 (by omega)
    simp only [Nat.zero_add, Nat.add_zero, Nat.reduceAdd, Nat.reduceMul, List.set_cons_zero, List.set_cons_succ, spliceL] at hB4
    clear ew4
    refine wl1 H25 (r_assign rfl) rfl rfl rfl rfl fun a24 H26 => ?_
    clear H25 a23
    refine wl_end ?_
    refine th_n ?_
    refine wpIn_ret ?_
    refine th_r ?_
    refine fin_r H26 (resCT rfl H26 rfl hB4 ag26 rfl) ?_
    first
      | (have hbig : sendE x d := by unfold sendE; omega
         refine ⟨I, hN, none, 0, none, 0, ?_, ?_⟩
         · rw [show lsend x d = lk0 from if_pos hbig, show lsendE x d = 2 from if_pos hbig]; rfl
         · rw [show lsend x d = lk0 from if_pos hbig]; exact lkAt0 _)
      | (have hok : ¬ sendE x d := by unfold sendE; omega
         have he1 : lsend x d = { x with out := x.out ++ [d] } := if_neg hok
         have he2 : lsendE x d = 0 := if_neg hok
         rw [he1, he2]
         exact ⟨I, hN, A5, c5, A6, c6, rfl, hLy⟩)
  ·
    clear H8
    try simp only [decide_eq_true_eq, decide_eq_false_iff_not, Bool.or_eq_true, Bool.and_eq_true, Bool.or_eq_false_iff, Bool.and_eq_false_iff, Bool.not_eq_true', Bool.not_eq_false', Int.not_lt, Int.not_le, ne_eq, Decidable.not_not] at hg1_3
    refine wl_on (d := 9) H9 rfl rfl rfl ?_
    refine wl1 H9 (r_fld fld26_1 rfl) rfl rfl rfl rfl fun a9 H27 => ?_
    clear H9 a8
    refine wl_on (d := 9) H27 rfl rfl rfl ?_
    refine wl1 H27 (r_load sc24 rfl (hB2.cell rfl)) rfl rfl rfl rfl fun a10 H28 => ?_
    clear H27 a9
    refine wl_on (d := 9) H28 rfl rfl rfl ?_
    refine wl1 H28 (r_len Try.underlying24 rfl) rfl rfl rfl rfl fun a11 H29 => ?_
    clear H28 a10
    refine wl_on (d := 9) H29 rfl rfl rfl ?_
    refine wl1 H29 (r_geq rfl rfl) rfl rfl rfl rfl fun a12 H30 => ?_
    clear H29 a11
    refine wl1 H30 (r_pick_f rfl rfl) rfl rfl rfl rfl fun a13 H31 => ?_
    clear H30 a12
    refine wl1 H31 (r_move rfl) rfl rfl rfl rfl fun a14 H32 => ?_
    clear H31 a13
    refine wl_split (t := 15) H32 rfl (fun hg1_9 H33 => ?_) (fun hg1_9 H33 => ?_)
    ·
      clear H32
      try simp only [decide_eq_true_eq, decide_eq_false_iff_not, Bool.or_eq_true, Bool.and_eq_true, Bool.or_eq_false_iff, Bool.and_eq_false_iff, Bool.not_eq_true', Bool.not_eq_false', Int.not_lt, Int.not_le, ne_eq, Decidable.not_not] at hg1_9
      refine wl_off (d := 15) H33 rfl rfl rfl rfl rfl rfl fun a15 H34 => ?_
      clear H33 a14
      refine wl_off (d := 15) H34 rfl rfl rfl rfl rfl rfl fun a16 H35 => ?_
      clear H34 a15
      refine wl_off (d := 15) H35 rfl rfl rfl rfl rfl rfl fun a17 H36 => ?_
      clear H35 a16
      refine wl_off (d := 15) H36 rfl rfl rfl rfl rfl rfl fun a18 H37 => ?_
      clear H36 a17
      refine wl_off (d := 15) H37 rfl rfl rfl rfl rfl rfl fun a19 H38 => ?_
      clear H37 a18
      refine wl_off (d := 15) H38 rfl rfl rfl rfl rfl rfl fun a20 H39 => ?_
      clear H38 a19
      refine wl_off (d := 15) H39 rfl rfl rfl rfl rfl rfl fun a21 H40 => ?_
      clear H39 a20
      refine wl1 H40 (r_pick_t rfl rfl) rfl rfl rfl rfl fun a22 H41 => ?_
      clear H40 a21
      refine wl_end ?_
      refine th_n ?_
      refine w_tt H41 rfl rfl ?_
      refine wpIn_seq ?_
      refine w_reg ?_
      refine wl1 H41 (r_build (v := .agg #[.int .u64 0, .slice none 0 0, .int .i64 0, .slice none 0 0, .int .i64 0]) rfl (fun w => by kernel_rfl)) rfl rfl rfl rfl fun a23 H42 => ?_
      clear H41 a22
      refine s_storeA (vs := [_, _, _, _, _]) H42 sz26 (by simp) (by simp [Value.oneCell']) rfl rfl hN hB4 (by simp) hgeb4 fun w5 hN hB4 ew5 H43 => ?_
      clear H42
      replace hB2 := hB2.otherE ew5 (by omega)
      replace hB3 := hB3.otherE ew5 (by omega)
      simp only [Nat.zero_add, Nat.add_zero, Nat.reduceAdd, Nat.reduceMul, List.set_cons_zero, List.set_cons_succ, spliceL] at hB4
      clear ew5
      refine wl1 H43 (r_assign rfl) rfl rfl rfl rfl fun a24 H44 => ?_
      clear H43 a23
      refine wl_end ?_
      refine th_n ?_
      refine wpIn_ret ?_
      refine th_r ?_
      refine fin_r H44 (resCT rfl H44 rfl hB4 ag26 rfl) ?_
      first
        | (have hbig : sendE x d := by unfold sendE; omega
           refine ⟨I, hN, none, 0, none, 0, ?_, ?_⟩
           · rw [show lsend x d = lk0 from if_pos hbig, show lsendE x d = 2 from if_pos hbig]; rfl
           · rw [show lsend x d = lk0 from if_pos hbig]; exact lkAt0 _)
        | (have hok : ¬ sendE x d := by unfold sendE; omega
           have he1 : lsend x d = { x with out := x.out ++ [d] } := if_neg hok
           have he2 : lsendE x d = 0 := if_neg hok
           rw [he1, he2]
           exact ⟨I, hN, A5, c5, A6, c6, rfl, hLy⟩)
    ·
      clear H32
      try simp only [decide_eq_true_eq, decide_eq_false_iff_not, Bool.or_eq_true, Bool.and_eq_true, Bool.or_eq_false_iff, Bool.and_eq_false_iff, Bool.not_eq_true', Bool.not_eq_false', Int.not_lt, Int.not_le, ne_eq, Decidable.not_not] at hg1_9
      refine wl_on (d := 15) H33 rfl rfl rfl ?_
      refine wl1 H33 (r_fld fld26_2 rfl) rfl rfl rfl rfl fun a15 H45 => ?_
      clear H33 a14
      refine wl_on (d := 15) H45 rfl rfl rfl ?_
      refine wl1 H45 (r_load sc3 rfl (hB2.cell rfl)) rfl rfl rfl rfl fun a16 H46 => ?_
      clear H45 a15
      refine wl_on (d := 15) H46 rfl rfl rfl ?_
      refine wl1 H46 (r_fld fld26_1 rfl) rfl rfl rfl rfl fun a17 H47 => ?_
      clear H46 a16
      refine wl_on (d := 15) H47 rfl rfl rfl ?_
      refine wl1 H47 (r_load sc24 rfl (hB2.cell rfl)) rfl rfl rfl rfl fun a18 H48 => ?_
      clear H47 a17
      refine wl_on (d := 15) H48 rfl rfl rfl ?_
      refine wl1 H48 (r_len Try.underlying24 rfl) rfl rfl rfl rfl fun a19 H49 => ?_
      clear H48 a18
      refine wl_on (d := 15) H49 rfl rfl rfl ?_
      first | refine wl1 H49 (r_addk rfl rfl (by simp only [InK]; omega)) rfl rfl rfl rfl fun a20 H50 => ?_ | refine wl1 H49 (r_add rfl rfl) rfl rfl rfl rfl fun a20 H50 => ?_
      clear H49 a19
      refine wl_on (d := 15) H50 rfl rfl rfl ?_
      refine wl1 H50 (r_geq rfl rfl) rfl rfl rfl rfl fun a21 H51 => ?_
      clear H50 a20
      refine wl1 H51 (r_pick_f rfl rfl) rfl rfl rfl rfl fun a22 H52 => ?_
      clear H51 a21
      refine wl_end ?_
      refine th_n ?_
      first | refine w_if H52 rfl (fun hc23 => ?_) (fun hc23 => ?_) | refine w_cond H52 rfl (fun hc23 => ?_) (fun hc23 => ?_)
      ·
        try simp only [decide_eq_true_eq, decide_eq_false_iff_not, Bool.or_eq_true, Bool.and_eq_true, Bool.or_eq_false_iff, Bool.and_eq_false_iff, Bool.not_eq_true', Bool.not_eq_false', Int.not_lt, Int.not_le, ne_eq, Decidable.not_not] at hc23
        refine wpIn_seq ?_
        refine w_reg ?_
        refine wl1 H52 (r_build (v := .agg #[.int .u64 0, .slice none 0 0, .int .i64 0, .slice none 0 0, .int .i64 0]) rfl (fun w => by kernel_rfl)) rfl rfl rfl rfl fun a23 H53 => ?_
        clear H52 a22
        refine s_storeA (vs := [_, _, _, _, _]) H53 sz26 (by simp) (by simp [Value.oneCell']) rfl rfl hN hB4 (by simp) hgeb4 fun w6 hN hB4 ew6 H54 => ?_
        clear H53
        replace hB2 := hB2.otherE ew6 (by omega)
        replace hB3 := hB3.otherE ew6 (by omega)
        simp only [Nat.zero_add, Nat.add_zero, Nat.reduceAdd, Nat.reduceMul, List.set_cons_zero, List.set_cons_succ, spliceL] at hB4
        clear ew6
        refine wl1 H54 (r_assign rfl) rfl rfl rfl rfl fun a24 H55 => ?_
        clear H54 a23
        refine wl_end ?_
        refine th_n ?_
        refine wpIn_ret ?_
        refine th_r ?_
        refine fin_r H55 (resCT rfl H55 rfl hB4 ag26 rfl) ?_
        first
          | (have hbig : sendE x d := by unfold sendE; omega
             refine ⟨I, hN, none, 0, none, 0, ?_, ?_⟩
             · rw [show lsend x d = lk0 from if_pos hbig, show lsendE x d = 2 from if_pos hbig]; rfl
             · rw [show lsend x d = lk0 from if_pos hbig]; exact lkAt0 _)
          | (have hok : ¬ sendE x d := by unfold sendE; omega
             have he1 : lsend x d = { x with out := x.out ++ [d] } := if_neg hok
             have he2 : lsendE x d = 0 := if_neg hok
             rw [he1, he2]
             exact ⟨I, hN, A5, c5, A6, c6, rfl, hLy⟩)
      ·
        try simp only [decide_eq_true_eq, decide_eq_false_iff_not, Bool.or_eq_true, Bool.and_eq_true, Bool.or_eq_false_iff, Bool.and_eq_false_iff, Bool.not_eq_true', Bool.not_eq_false', Int.not_lt, Int.not_le, ne_eq, Decidable.not_not] at hc23
        have hdl : d.length ≤ 1048000 := by omega
        refine wpIn_skip ?_
        refine th_n ?_
        refine wpIn_seq ?_
        refine w_reg ?_
        refine wl1 H52 (r_loadA (cs := [_, _, _, _, _]) ag26 rfl hB2.agg) rfl rfl rfl rfl fun a23 H56 => ?_
        clear H52 a22
        refine wl1 H56 (r_makeFunc rfl rfl) rfl rfl rfl rfl fun a24 H57 => ?_
        clear H56 a23
        refine wlc  H57 rfl rfl hb52 rfl (changed_ret (y := { x with out := x.out ++ [d] }) (fc := 55) (capt := [.pointer (some ⟨b3, 0, none⟩)]) hN.sat hL hv hb55 (fun J W b2 b4 A3 A4 hN1 h1 h2 h3 h4 h5 h6 => send1_ret hN1 h1 h2 h3 h4 h5 h6 hv.o hB3.lt (hB3.next hN1) (hD.up hN1.le) hdc (by omega))) fun v w7 hR a25 H58 => ?_
        clear H57 a24
        obtain ⟨J7, nw7, ⟨A5, c5, A6, c6, rfl, hLy⟩⟩ := hR
        replace hL := hL.up nw7.le
        replace hD := hD.up nw7.le
        replace hB2 := hB2.next nw7
        replace hB3 := hB3.next nw7
        replace hB4 := hB4.next nw7
        have hN := hN.trans nw7
        refine wl1 H58 (r_extract rfl rfl) rfl rfl rfl rfl fun a26 H59 => ?_
        clear H58 a25
        refine wl1 H59 (r_extract rfl rfl) rfl rfl rfl rfl fun a27 H60 => ?_
        clear H59 a26
        refine s_storeA (vs := [_, _, _, _, _]) H60 sz26 (by simp) (by simp [Value.oneCell']) rfl rfl hN hB4 (by simp) hgeb4 fun w8 hN hB4 ew8 H61 => ?_
        clear H60
        replace hB2 := hB2.otherE ew8 (by omega)
        replace hB3 := hB3.otherE ew8 (by omega)
        simp only [Nat.zero_add, Nat.add_zero, Nat.reduceAdd, Nat.reduceMul, List.set_cons_zero, List.set_cons_succ, spliceL] at hB4
        clear ew8
        refine wl1 H61 (r_assign rfl) rfl rfl rfl rfl fun a28 H62 => ?_
        clear H61 a27
        refine wl_end ?_
        refine th_n ?_
        refine wpIn_ret ?_
        refine fin_r H62 (resCT rfl H62 rfl hB4 ag26 rfl) ?_
        first
          | (have hbig : sendE x d := by unfold sendE; omega
             refine ⟨J7, hN, none, 0, none, 0, ?_, ?_⟩
             · rw [show lsend x d = lk0 from if_pos hbig, show lsendE x d = 2 from if_pos hbig]; rfl
             · rw [show lsend x d = lk0 from if_pos hbig]; exact lkAt0 _)
          | (have hok : ¬ sendE x d := by unfold sendE; omega
             have he1 : lsend x d = { x with out := x.out ++ [d] } := if_neg hok
             have he2 : lsendE x d = 0 := if_neg hok
             rw [he1, he2]
             exact ⟨J7, hN, A5, c5, A6, c6, rfl, hLy⟩)
set_option maxRecDepth 100000 in
set_option maxHeartbeats 400000 in
theorem take_ret {A1 A2 : Option Addr} {c1 c2 : Nat} {x : Lk} {I : Im} {w : World} (hS : Sat I w) (hL : LkAt I x A1 c1 A2 c2) (hv : LkV x) :
    Ret Try.prog 40 [.agg #[.int .u64 x.key, .slice A1 x.out.length c1, .int .i64 x.base, .slice A2 x.inn.length c2, .int .i64 x.rcv]] w (TakePost I w (ltakeD x) (ltake x) (ltakeE x)) := by
  have hv1 := hv.o
  have hv2 := hv.b0
  have hv3 := hv.b1
  have hv4 := hv.i
  have hv5 := hv.r0
  have hv6 := hv.r1
  refine ret_of (N := 24) Try.func40 rfl rfl rfl fun a0 H0 => ?_
  have hN := New.refl hS
  simp only [argsEnv, Nat.zero_add, Nat.reduceAdd] at H0
  refine wpIn_seq ?_
  refine w_reg ?_
  refine s_box H0 rfl rfl hN fun w1 b1 hN gw1 hB1 hgeb1 heb1 a1 H1 => ?_
  clear H0 a0
  replace hB1 : Box _ _ _ [_, _, _, _, _] 26 := hB1
  refine wl1 H1 (r_assign rfl) rfl rfl rfl rfl fun a2 H2 => ?_
  clear H1 a1
  refine s_alloc H2 zv26 rfl hN fun w2 b3 hN gw2 hB3 hgeb3 heb3 a3 H3 => ?_
  clear H2 a2
  replace hB3 : Box _ _ _ [.int .u64 0, .slice none 0 0, .int .i64 0, .slice none 0 0, .int .i64 0] 26 := hB3
  have hne_hB1_b3 := hB1.lt
  rw [← heb3] at hne_hB1_b3
  replace hB1 := hB1.gr gw2
  refine wl1 H3 (r_assign rfl) rfl rfl rfl rfl fun a4 H4 => ?_
  clear H3 a3
  refine wl_end ?_
  refine th_n ?_
  refine wpIn_seq ?_
  refine wpIn_seq ?_
  refine w_reg ?_
  refine wl1 H4 (r_fld fld26_3 rfl) rfl rfl rfl rfl fun a5 H5 => ?_
  clear H4 a4
  refine wl1 H5 (r_load sc24 rfl (hB1.cell rfl)) rfl rfl rfl rfl fun a6 H6 => ?_
  clear H5 a5
  refine wl1 H6 (r_len Try.underlying24 rfl) rfl rfl rfl rfl fun a7 H7 => ?_
  clear H6 a6
  refine wl1 H7 (r_eql rfl rfl) rfl rfl rfl rfl fun a8 H8 => ?_
  clear H7 a7
  refine wl_end ?_
  refine th_n ?_
  first | refine w_if H8 rfl (fun hc10 => ?_) (fun hc10 => ?_) | refine w_cond H8 rfl (fun hc10 => ?_) (fun hc10 => ?_)
  ·
    try simp only [decide_eq_true_eq, decide_eq_false_iff_not, Bool.or_eq_true, Bool.and_eq_true, Bool.or_eq_false_iff, Bool.and_eq_false_iff, Bool.not_eq_true', Bool.not_eq_false', Int.not_lt, Int.not_le, ne_eq, Decidable.not_not] at hc10
    have hx0 : x.inn = [] := List.eq_nil_of_length_eq_zero (by omega)
    refine wpIn_seq ?_
    refine w_reg ?_
    refine wl1 H8 (r_build (v := .agg #[.int .u64 0, .slice none 0 0, .int .i64 0, .slice none 0 0, .int .i64 0]) rfl (fun w => by kernel_rfl)) rfl rfl rfl rfl fun a9 H9 => ?_
    clear H8 a8
    refine wl1 H9 (r_assign rfl) rfl rfl rfl rfl fun a10 H10 => ?_
    clear H9 a9
    refine s_storeA (vs := [_, _, _, _, _]) H10 sz26 (by simp) (by simp [Value.oneCell']) rfl rfl hN hB3 (by simp) hgeb3 fun w3 hN hB3 ew3 H11 => ?_
    clear H10
    replace hB1 := hB1.otherE ew3 (by omega)
    simp only [Nat.zero_add, Nat.add_zero, Nat.reduceAdd, Nat.reduceMul, List.set_cons_zero, List.set_cons_succ, spliceL] at hB3
    clear ew3
    refine wl1 H11 (r_assign rfl) rfl rfl rfl rfl fun a11 H12 => ?_
    clear H11 a10
    refine wl_end ?_
    refine th_n ?_
    refine wpIn_ret ?_
    refine th_r ?_
    refine fin_r H12 (resTCT rfl H12 rfl rfl hB3 ag26 rfl) ?_
    refine ⟨I, hN, none, 0, none, 0, none, 0, ?_, ?_, ?_, ?_⟩
    · rw [show ltakeD x = [] by unfold ltakeD; rw [hx0]; rfl, show ltake x = lk0 from if_pos (by rw [hx0]; rfl), show ltakeE x = 4 from if_pos (by rw [hx0]; rfl)]; rfl
    · rw [show ltakeD x = [] by unfold ltakeD; rw [hx0]; rfl]; exact Nat.le_refl _
    · rw [show ltakeD x = [] by unfold ltakeD; rw [hx0]; rfl]; exact Els.nil _ _ _
    · rw [show ltake x = lk0 from if_pos (by rw [hx0]; rfl)]; exact lkAt0 _
  ·
    try simp only [decide_eq_true_eq, decide_eq_false_iff_not, Bool.or_eq_true, Bool.and_eq_true, Bool.or_eq_false_iff, Bool.and_eq_false_iff, Bool.not_eq_true', Bool.not_eq_false', Int.not_lt, Int.not_le, ne_eq, Decidable.not_not] at hc10
    have hx0 : ¬ x.inn.length = 0 := by omega
    obtain ⟨bI, oI, hA2⟩ := hL.ie.form (by omega)
    subst hA2
    have hsd := hv.si _ (List.getElem_mem (show 0 < x.inn.length by omega))
    refine wpIn_skip ?_
    refine th_n ?_
    refine wpIn_seq ?_
    refine w_reg ?_
    refine wl1 H8 (r_loadA (cs := [_, _, _, _, _]) ag26 rfl hB1.agg) rfl rfl rfl rfl fun a9 H13 => ?_
    clear H8 a8
    refine wlc  H13 rfl rfl hb52 rfl (changed_ret (y := { x with inn := x.inn.drop 1 }) (fc := 53) (capt := []) hN.sat hL hv hb53 (fun J W b2 b4 A3 A4 hN1 h1 h2 h3 h4 h5 h6 => take1_ret hN1 h1 h2 h3 h4 h5 h6 (by omega))) fun v w4 hR a10 H14 => ?_
    clear H13 a9
    obtain ⟨J4, nw4, ⟨A5, c5, A6, c6, rfl, hLy⟩⟩ := hR
    replace hL := hL.up nw4.le
    replace hB1 := hB1.next nw4
    replace hB3 := hB3.next nw4
    have hN := hN.trans nw4
    refine wl1 H14 (r_move rfl) rfl rfl rfl rfl fun a11 H15 => ?_
    clear H14 a10
    refine wl1 H15 (r_extract rfl rfl) rfl rfl rfl rfl fun a12 H16 => ?_
    clear H15 a11
    refine wl1 H16 (r_extract rfl rfl) rfl rfl rfl rfl fun a13 H17 => ?_
    clear H16 a12
    refine s_alloc H17 zv26 rfl hN fun w5 b5 hN gw5 hB5 hgeb5 heb5 a14 H18 => ?_
    clear H17 a13
    replace hB5 : Box _ _ _ [.int .u64 0, .slice none 0 0, .int .i64 0, .slice none 0 0, .int .i64 0] 26 := hB5
    have hne_hB1_b5 := hB1.lt
    rw [← heb5] at hne_hB1_b5
    have hne_hB3_b5 := hB3.lt
    rw [← heb5] at hne_hB3_b5
    replace hB1 := hB1.gr gw5
    replace hB3 := hB3.gr gw5
    refine s_storeA (vs := [_, _, _, _, _]) H18 sz26 (by simp) (by simp [Value.oneCell']) rfl rfl hN hB5 (by simp) hgeb5 fun w6 hN hB5 ew6 H19 => ?_
    clear H18
    replace hB1 := hB1.otherE ew6 (by omega)
    replace hB3 := hB3.otherE ew6 (by omega)
    simp only [Nat.zero_add, Nat.add_zero, Nat.reduceAdd, Nat.reduceMul, List.set_cons_zero, List.set_cons_succ, spliceL] at hB5
    clear ew6
    refine wl1 H19 (r_assign rfl) rfl rfl rfl rfl fun a15 H20 => ?_
    clear H19 a14
    refine wl_end ?_
    refine th_n ?_
    refine wpIn_seq ?_
    obtain ⟨AA, cA, hcA, hlA, hEA⟩ := hL.ie.rowAt (show 0 < x.inn.length by omega)
    obtain ⟨d0, hd0⟩ : ∃ d0, d0 = x.inn[0] := ⟨_, rfl⟩
    rw [← hd0] at hcA hlA hEA hsd
    have hS0 := hN.sat
    have hNsz4 := hN.gr.size
    refine w_drawS [6] (m := 8) (l0 := [(1, _), (3, _), (4, _), (5, _), (6, _)]) (fun k => cond (Nat.beq k 6) (.int .i64 0) (undef)) hfol H20 ⟨rfl, rfl, rfl, rfl, rfl, trivial⟩ (by kernel_rfl) rfl ?_
    refine ⟨_, false, (fun σ ι w1 hg hd hon => by
        exact OpOK.sub (r := [(1, _), (3, _), (4, _), (5, _), (6, _)]) ⟨rfl, rfl, rfl, rfl, rfl, trivial⟩ (by
          exact OpOK.eq (r_fld fld26_3 rfl))
        ), (fun _ _ _ _ _ _ h => h), (FreeR.no _), ?_⟩
    refine ⟨_, false, (fun σ ι w1 hg hd hon => by
        have hN := hN.ofGr ((Gr.refl _).drew.trans hg)
        have hB1 := hB1.gr ((Gr.refl _).drew.trans hg)
        have hB3 := hB3.gr ((Gr.refl _).drew.trans hg)
        have hB5 := hB5.gr ((Gr.refl _).drew.trans hg)
        have f0 := hd 0 (by decide) _ rfl
        have e0 : σ 0 = _ := f0.1 trivial
        exact OpOK.sub (r := [(17, _), (1, _), (3, _), (4, _), (5, _), (6, _)]) ⟨congrArg some e0, rfl, rfl, rfl, rfl, rfl, trivial⟩ (by
          exact OpOK.eq (r_load sc24 rfl (hB1.cell rfl)))
        ), (fun _ _ _ _ _ _ h => h), (FreeR.no _), ?_⟩
    refine ⟨_, false, (fun σ ι w1 hg hd hon => by
        have f1 := hd 1 (by decide) _ rfl
        have e1 : σ 1 = _ := f1.1 trivial
        exact OpOK.sub (r := [(18, _), (1, _), (3, _), (4, _), (5, _), (6, _)]) ⟨congrArg some e1, rfl, rfl, rfl, rfl, rfl, trivial⟩ (by
          exact OpOK.eq (r_idx Try.underlying24 sz23 rfl rfl (i := 0) rfl (by omega)))
        ), (fun _ _ _ _ _ _ h => h), (FreeR.no _), ?_⟩
    refine ⟨_, false, (fun σ ι w1 hg hd hon => by
        have hN := hN.ofGr ((Gr.refl _).drew.trans hg)
        have hB1 := hB1.gr ((Gr.refl _).drew.trans hg)
        have hB3 := hB3.gr ((Gr.refl _).drew.trans hg)
        have hB5 := hB5.gr ((Gr.refl _).drew.trans hg)
        have f2 := hd 2 (by decide) _ rfl
        have e2 : σ 2 = _ := f2.1 trivial
        exact OpOK.sub (r := [(19, _), (1, _), (3, _), (4, _), (5, _), (6, _)]) ⟨congrArg some e2, rfl, rfl, rfl, rfl, rfl, trivial⟩ (by
          exact OpOK.eq (r_load sc23 rfl (hN.sat.cell hcA)))
        ), (fun _ _ _ _ _ _ h => h), (FreeR.no _), ?_⟩
    refine ⟨_, true, (fun σ ι w1 hg hd hon => by
        have hN := hN.ofGr ((Gr.refl _).drew.trans hg)
        have hB1 := hB1.gr ((Gr.refl _).drew.trans hg)
        have hB3 := hB3.gr ((Gr.refl _).drew.trans hg)
        have hB5 := hB5.gr ((Gr.refl _).drew.trans hg)
        have f3 := hd 3 (by decide) _ rfl
        have e3 : σ 3 = _ := f3.1 trivial
        skip
        exact CallOK.sub (r := [(20, _), (1, _), (3, _), (4, _), (5, _), (6, _)]) ⟨congrArg some e3, rfl, rfl, rfl, rfl, rfl, trivial⟩ (by
          exact CallOK.M (Φ := CL d0) (enters_of rfl rfl hb54) (cloneΦ hN.sat hEA (by omega)))
        ), (by exact monoOwn (J := J4) (Φ := fun _ => CL d0)), (fun _ _ _ _ _ _ h => h), ?_⟩
    refine ⟨_, false, (fun σ ι w1 hg hd hon => by
        have hN := hN.ofGr ((Gr.refl _).drew.trans hg)
        have hB1 := hB1.gr ((Gr.refl _).drew.trans hg)
        have hB3 := hB3.gr ((Gr.refl _).drew.trans hg)
        have hB5 := hB5.gr ((Gr.refl _).drew.trans hg)
        exact OpOK.sub (r := [(1, _), (3, _), (4, _), (5, _), (6, _)]) ⟨rfl, rfl, rfl, rfl, rfl, trivial⟩ (by
          exact OpOK.eq (r_loadA (cs := [_, _, _, _, _]) ag26 rfl hB5.agg))
        ), (fun _ _ _ _ _ _ h => h), (FreeR.no _), ?_⟩
    refine ⟨_, false, (fun σ ι w1 hg hd hon => by
        exact OpOK.sub (r := [(1, _), (3, _), (4, _), (5, _), (6, _)]) ⟨rfl, rfl, rfl, rfl, rfl, trivial⟩ (by
          exact OpOK.eq (r_move rfl))
        ), (fun _ _ _ _ _ _ h => h), (FreeR.no _), ?_⟩
    refine ⟨_, false, (fun σ ι w1 hg hd hon => by
        have f4 := hd 4 (by decide) _ rfl
        exact OpOK.sub (r := [(21, σ 4)]) ⟨rfl, trivial⟩ (by
          exact OpOK.eq (r_assign rfl))
        ), (fun _ _ _ _ _ _ h => h), (FreeR.no _), ?_⟩
    refine ⟨by intro e he σ v q w; simp only [List.mem_cons, List.not_mem_nil, or_false] at he; rcases he with rfl <;> exact Iff.rfl, ?_⟩
    intro σ ι w8 hgw8 hd hap
    have hN0 := hN
    have hN := hN.ofGr ((Gr.refl _).drew.trans hgw8)
    have hNd := (New.refl (hS0.drewS)).ofGr hgw8
    obtain ⟨K4, hP4, A7, c7, e4, hc7, hE7⟩ := (hd 4 (by decide) _ rfl).1 trivial
    replace hE7 := hE7.up (joinI_right hNd.sat hP4.sat)
    replace hNd := hNd.part hNd.le hP4 (hap.1 4 (by decide)).1
    replace hB1 := (hB1.gr (Gr.refl _).drew).next hNd
    replace hB3 := (hB3.gr (Gr.refl _).drew).next hNd
    replace hB5 := (hB5.gr (Gr.refl _).drew).next hNd
    replace hL := hL.up hNd.le
    replace hLy := hLy.up hNd.le
    have hN := hN0.drew.trans hNd
    have e5 : σ 5 = _ := (hd 5 (by decide) _ rfl).1 trivial
    have e6 : σ 6 = _ := (hd 6 (by decide) _ rfl).1 trivial
    have e7 : σ 7 = _ := Eq.trans ((hd 7 (by decide) _ rfl).1 trivial) e4
    clear hd
    clear hap
    refine t_storeA (vs := [_, _, _, _, _]) (rr := [(22, _), (3, _)]) ⟨congrArg some e5, rfl, trivial⟩ sz26 (by simp) (by simp [Value.oneCell']) rfl rfl hN hB3 (by simp) hgeb3 ?_
    intro w9 hN hB3 ew9
    replace hB1 := hB1.otherE ew9 (by omega)
    replace hB5 := hB5.otherE ew9 (by omega)
    simp only [Nat.zero_add, Nat.add_zero, Nat.reduceAdd, Nat.reduceMul, List.set_cons_zero, List.set_cons_succ, spliceL] at hB3
    clear ew9
    refine ⟨?_, ?_⟩
    · intro e he o ho; simp only [List.mem_cons, List.not_mem_nil, or_false] at he
      rcases he with rfl
      · injection ho with ho; subst ho; exact Run1.sub (m := [(1, _), (3, _), (4, _), (5, _), (6, _)]) ⟨rfl, rfl, rfl, rfl, rfl, trivial⟩ (by first | exact (r_move rfl))
    intro a16 H21
    replace H21 := H21.sub (r := [(21, _), (22, _), (23, _), (2, _), (1, _), (3, _), (4, _), (5, _), (6, _)]) ⟨congrArg some e4, congrArg some e5, congrArg some e6, congrArg some e7, rfl, rfl, rfl, rfl, rfl, trivial⟩
    clear H20 a15
    refine wl1 H21 (r_assign rfl) rfl rfl rfl rfl fun a17 H22 => ?_
    clear H21 a16
    refine wl_end ?_
    refine th_n ?_
    refine wpIn_ret ?_
    refine fin_r H22 (resTCT rfl H22 rfl rfl hB3 ag26 rfl) ?_
    rw [ltakeD_cons hx0, ← hd0, show ltake x = { x with inn := x.inn.drop 1 } from if_neg hx0, show ltakeE x = 0 from if_neg hx0]
    exact ⟨(joinI J4 K4), hN, A7, c7, A5, c5, A6, c6, rfl, hc7, hE7, hLy⟩
set_option maxRecDepth 100000 in
set_option maxHeartbeats 400000 in
theorem receive_ret {A1 A2 : Option Addr} {c1 c2 : Nat} {x : Lk} {p : Pk} {D : Option Addr} {cd : Nat} {I : Im} {w : World} (hS : Sat I w) (hL : LkAt I x A1 c1 A2 c2) (hv : LkV x) (hP : PkAt I p D cd) :
    Ret Try.prog 44 [.agg #[.int .u64 x.key, .slice A1 x.out.length c1, .int .i64 x.base, .slice A2 x.inn.length c2, .int .i64 x.rcv], .agg #[.int .i64 p.seq, .int .i64 p.ack, .slice D p.data.length cd, .int .u64 p.chk]] w (LinkPost I w (lrec x p) (lrecE x p)) := by
  have hv1 := hv.o
  have hv2 := hv.b0
  have hv3 := hv.b1
  have hv4 := hv.i
  have hv5 := hv.r0
  have hv6 := hv.r1
  refine ret_of (N := 16) Try.func44 rfl rfl rfl fun a0 H0 => ?_
  have hN := New.refl hS
  simp only [argsEnv, Nat.zero_add, Nat.reduceAdd] at H0
  refine wpIn_seq ?_
  refine w_reg ?_
  refine s_box H0 rfl rfl hN fun w1 b2 hN gw1 hB2 hgeb2 heb2 a1 H1 => ?_
  clear H0 a0
  replace hB2 : Box _ _ _ [_, _, _, _, _] 26 := hB2
  refine s_box H1 rfl rfl hN fun w2 b3 hN gw2 hB3 hgeb3 heb3 a2 H2 => ?_
  clear H1 a1
  replace hB3 : Box _ _ _ [_, _, _, _] 28 := hB3
  have hne_hB2_b3 := hB2.lt
  rw [← heb3] at hne_hB2_b3
  replace hB2 := hB2.gr gw2
  refine s_alloc H2 zv26 rfl hN fun w3 b4 hN gw3 hB4 hgeb4 heb4 a3 H3 => ?_
  clear H2 a2
  replace hB4 : Box _ _ _ [.int .u64 0, .slice none 0 0, .int .i64 0, .slice none 0 0, .int .i64 0] 26 := hB4
  have hne_hB2_b4 := hB2.lt
  rw [← heb4] at hne_hB2_b4
  have hne_hB3_b4 := hB3.lt
  rw [← heb4] at hne_hB3_b4
  replace hB2 := hB2.gr gw3
  replace hB3 := hB3.gr gw3
  refine wl1 H3 (r_assign rfl) rfl rfl rfl rfl fun a4 H4 => ?_
  clear H3 a3
  refine wl_end ?_
  refine th_n ?_
  refine wpIn_seq ?_
  refine wpIn_seq ?_
  refine w_reg ?_
  refine wl1 H4 (r_loadA (cs := [_, _, _, _, _]) ag26 rfl hB2.agg) rfl rfl rfl rfl fun a5 H5 => ?_
  clear H4 a4
  refine wl1 H5 (r_loadA (cs := [_, _, _, _]) ag28 rfl hB3.agg) rfl rfl rfl rfl fun a6 H6 => ?_
  clear H5 a5
  refine wlc  H6 rfl rfl hb56 rfl (accepted_ret hN.sat hL hv hP) fun v w4 hR a7 H7 => ?_
  clear H6 a6
  obtain ⟨rfl, gw4⟩ := hR
  have hN := hN.ofGr gw4
  replace hB2 := hB2.gr gw4
  replace hB3 := hB3.gr gw4
  replace hB4 := hB4.gr gw4
  refine wl1 H7 (r_not rfl) rfl rfl rfl rfl fun a8 H8 => ?_
  clear H7 a7
  refine wl_end ?_
  refine th_n ?_
  first | refine w_if H8 rfl (fun hc9 => ?_) (fun hc9 => ?_) | refine w_cond H8 rfl (fun hc9 => ?_) (fun hc9 => ?_)
  ·
    try simp only [decide_eq_true_eq, decide_eq_false_iff_not, Bool.or_eq_true, Bool.and_eq_true, Bool.or_eq_false_iff, Bool.and_eq_false_iff, Bool.not_eq_true', Bool.not_eq_false', Int.not_lt, Int.not_le, ne_eq, Decidable.not_not] at hc9
    refine wpIn_seq ?_
    refine w_reg ?_
    refine wl1 H8 (r_build (v := .agg #[.int .u64 0, .slice none 0 0, .int .i64 0, .slice none 0 0, .int .i64 0]) rfl (fun w => by kernel_rfl)) rfl rfl rfl rfl fun a9 H9 => ?_
    clear H8 a8
    refine s_storeA (vs := [_, _, _, _, _]) H9 sz26 (by simp) (by simp [Value.oneCell']) rfl rfl hN hB4 (by simp) hgeb4 fun w5 hN hB4 ew5 H10 => ?_
    clear H9
    replace hB2 := hB2.otherE ew5 (by omega)
    replace hB3 := hB3.otherE ew5 (by omega)
    simp only [Nat.zero_add, Nat.add_zero, Nat.reduceAdd, Nat.reduceMul, List.set_cons_zero, List.set_cons_succ, spliceL] at hB4
    clear ew5
    refine wl1 H10 (r_assign rfl) rfl rfl rfl rfl fun a10 H11 => ?_
    clear H10 a9
    refine wl_end ?_
    refine th_n ?_
    refine wpIn_ret ?_
    refine th_r ?_
    refine fin_r H11 (resCT rfl H11 rfl hB4 ag26 rfl) ?_
    have hno : ¬ lacc x p := hc9
    refine ⟨I, hN, none, 0, none, 0, ?_, ?_⟩
    · rw [show lrec x p = lk0 from if_neg hno, show lrecE x p = 500 from if_neg hno]; rfl
    · rw [show lrec x p = lk0 from if_neg hno]; exact lkAt0 _
  ·
    try simp only [decide_eq_true_eq, decide_eq_false_iff_not, Bool.or_eq_true, Bool.and_eq_true, Bool.or_eq_false_iff, Bool.and_eq_false_iff, Bool.not_eq_true', Bool.not_eq_false', Int.not_lt, Int.not_le, ne_eq, Decidable.not_not] at hc9
    have hacc : lacc x p := hc9
    have hacc2 := hacc.1
    refine wpIn_skip ?_
    refine th_n ?_
    refine wpIn_seq ?_
    refine w_reg ?_
    refine wl1 H8 (r_loadA (cs := [_, _, _, _, _]) ag26 rfl hB2.agg) rfl rfl rfl rfl fun a9 H12 => ?_
    clear H8 a8
    refine wl1 H12 (r_makeFunc rfl rfl) rfl rfl rfl rfl fun a10 H13 => ?_
    clear H12 a9
    refine wlc  H13 rfl rfl hb52 rfl (changed_ret (y := lrec2 (lrec1 x p) p) (fc := 57) (capt := [.pointer (some ⟨b3, 0, none⟩)]) hN.sat hL hv hb57 (fun J W b2 b4 A3 A4 hN1 h1 h2 h3 h4 h5 h6 => receive1_ret hN1 h1 h2 h3 h4 h5 h6 hv hB3.lt (hB3.next hN1) (hP.up hN1.le) (by omega) (by omega) (by omega))) fun v w6 hR a11 H14 => ?_
    clear H13 a10
    obtain ⟨J6, nw6, ⟨A5, c5, A6, c6, rfl, hLy⟩⟩ := hR
    replace hL := hL.up nw6.le
    replace hP := hP.up nw6.le
    replace hB2 := hB2.next nw6
    replace hB3 := hB3.next nw6
    replace hB4 := hB4.next nw6
    have hN := hN.trans nw6
    refine wl1 H14 (r_extract rfl rfl) rfl rfl rfl rfl fun a12 H15 => ?_
    clear H14 a11
    refine wl1 H15 (r_extract rfl rfl) rfl rfl rfl rfl fun a13 H16 => ?_
    clear H15 a12
    refine s_storeA (vs := [_, _, _, _, _]) H16 sz26 (by simp) (by simp [Value.oneCell']) rfl rfl hN hB4 (by simp) hgeb4 fun w7 hN hB4 ew7 H17 => ?_
    clear H16
    replace hB2 := hB2.otherE ew7 (by omega)
    replace hB3 := hB3.otherE ew7 (by omega)
    simp only [Nat.zero_add, Nat.add_zero, Nat.reduceAdd, Nat.reduceMul, List.set_cons_zero, List.set_cons_succ, spliceL] at hB4
    clear ew7
    refine wl1 H17 (r_assign rfl) rfl rfl rfl rfl fun a14 H18 => ?_
    clear H17 a13
    refine wl_end ?_
    refine th_n ?_
    refine wpIn_ret ?_
    refine fin_r H18 (resCT rfl H18 rfl hB4 ag26 rfl) ?_
    rw [show lrec x p = lrec2 (lrec1 x p) p from if_pos hacc, show lrecE x p = 0 from if_pos hacc]
    exact ⟨J6, hN, A5, c5, A6, c6, rfl, hLy⟩
end Go.Proofs.Ytjjpaghloaggeaa
