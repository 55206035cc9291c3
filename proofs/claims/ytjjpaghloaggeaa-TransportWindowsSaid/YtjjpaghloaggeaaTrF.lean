/- The words of the law, the reference. -/
import Derived.Test.YtjjpaghloaggeaaTrE
set_option linter.unusedVariables false
set_option linter.unusedSimpArgs false
namespace Go.Proofs.Ytjjpaghloaggeaa
open Go.RowKit

set_option maxRecDepth 100000 in
set_option maxHeartbeats 400000 in
theorem lsent_ret {A1 A2 : Option Addr} {c1 c2 : Nat} {x : Lk} {D : Option Addr} {cd : Nat} {d : List Int} {I : Im} {w : World} (hS : Sat I w) (hL : LkAt I x A1 c1 A2 c2) (hv : LkV x) (hD : Els (kInt .u8) I D d) (hdc : d.length ≤ cd) :
    Ret Try.prog 23 [.agg #[.int .u64 x.key, .slice A1 x.out.length c1, .int .i64 x.base, .slice A2 x.inn.length c2, .int .i64 x.rcv], .slice D d.length cd] w (SentPost I w (lsend x d) (lsendE x d)) := by
  refine ret_of (N := 16) Try.func23 rfl rfl rfl fun a0 H0 => ?_
  have hN := New.refl hS
  simp only [argsEnv, Nat.zero_add, Nat.reduceAdd] at H0
  refine wpIn_seq ?_
  refine w_reg ?_
  refine s_box H0 rfl rfl hN fun w1 b2 hN gw1 hB2 hgeb2 heb2 a1 H1 => ?_
  clear H0 a0
  replace hB2 : Box _ _ _ [_, _, _, _, _] 26 := hB2
  refine s_alloc H1 zv48 rfl hN fun w2 b4 hN gw2 hB4 hgeb4 heb4 a2 H2 => ?_
  clear H1 a1
  replace hB4 : Box _ _ _ [.int .u64 0, .slice none 0 0, .int .i64 0, .slice none 0 0, .int .i64 0, .int .i64 0] 48 := hB4
  have hne_hB2_b4 := hB2.lt
  rw [← heb4] at hne_hB2_b4
  replace hB2 := hB2.gr gw2
  refine wl_end ?_
  refine th_n ?_
  refine wpIn_seq ?_
  refine w_reg ?_
  refine wl1 H2 (r_loadA (cs := [_, _, _, _, _]) ag26 rfl hB2.agg) rfl rfl rfl rfl fun a3 H3 => ?_
  clear H2 a2
  refine wl1 H3 (r_move rfl) rfl rfl rfl rfl fun a4 H4 => ?_
  clear H3 a3
  refine wlc  H4 rfl rfl hb42 rfl (send_ret hN.sat hL hv hD hdc) fun v w3 hR a5 H5 => ?_
  clear H4 a4
  obtain ⟨J3, nw3, ⟨A5, c5, A6, c6, rfl, hLy⟩⟩ := hR
  replace hL := hL.up nw3.le
  replace hD := hD.up nw3.le
  replace hB2 := hB2.next nw3
  replace hB4 := hB4.next nw3
  have hN := hN.trans nw3
  refine wl1 H5 (r_move rfl) rfl rfl rfl rfl fun a6 H6 => ?_
  clear H5 a5
  refine wl1 H6 (r_extract rfl rfl) rfl rfl rfl rfl fun a7 H7 => ?_
  clear H6 a6
  refine wl1 H7 (r_extract rfl rfl) rfl rfl rfl rfl fun a8 H8 => ?_
  clear H7 a7
  refine s_alloc H8 zv26 rfl hN fun w4 b5 hN gw4 hB5 hgeb5 heb5 a9 H9 => ?_
  clear H8 a8
  replace hB5 : Box _ _ _ [.int .u64 0, .slice none 0 0, .int .i64 0, .slice none 0 0, .int .i64 0] 26 := hB5
  have hne_hB2_b5 := hB2.lt
  rw [← heb5] at hne_hB2_b5
  have hne_hB4_b5 := hB4.lt
  rw [← heb5] at hne_hB4_b5
  replace hB2 := hB2.gr gw4
  replace hB4 := hB4.gr gw4
  refine s_storeA (vs := [_, _, _, _, _]) H9 sz26 (by simp) (by simp [Value.oneCell']) rfl rfl hN hB5 (by simp) hgeb5 fun w5 hN hB5 ew5 H10 => ?_
  clear H9
  replace hB2 := hB2.otherE ew5 (by omega)
  replace hB4 := hB4.otherE ew5 (by omega)
  simp only [Nat.zero_add, Nat.add_zero, Nat.reduceAdd, Nat.reduceMul, List.set_cons_zero, List.set_cons_succ, spliceL] at hB5
  clear ew5
  refine wl1 H10 (r_assign rfl) rfl rfl rfl rfl fun a10 H11 => ?_
  clear H10 a9
  refine wl_end ?_
  refine th_n ?_
  refine wpIn_seq ?_
  refine w_reg ?_
  refine wl1 H11 (r_loadA (cs := [_, _, _, _, _]) ag26 rfl hB5.agg) rfl rfl rfl rfl fun a11 H12 => ?_
  clear H11 a10
  refine wl1 H12 (r_move rfl) rfl rfl rfl rfl fun a12 H13 => ?_
  clear H12 a11
  refine wl1 H13 (r_build (v := .agg #[.int .u64 (lsend x d).key, .slice A5 (lsend x d).out.length c5, .int .i64 (lsend x d).base, .slice A6 (lsend x d).inn.length c6, .int .i64 (lsend x d).rcv, .int .i64 (lsendE x d)]) rfl (fun w => by kernel_rfl)) rfl rfl rfl rfl fun a13 H14 => ?_
  clear H13 a12
  refine s_storeA (vs := [_, _, _, _, _, _]) H14 sz48 (by simp) (by simp [Value.oneCell']) rfl rfl hN hB4 (by simp) hgeb4 fun w6 hN hB4 ew6 H15 => ?_
  clear H14
  replace hB2 := hB2.otherE ew6 (by omega)
  replace hB5 := hB5.otherE ew6 (by omega)
  simp only [Nat.zero_add, Nat.add_zero, Nat.reduceAdd, Nat.reduceMul, List.set_cons_zero, List.set_cons_succ, spliceL] at hB4
  clear ew6
  refine wl_end ?_
  refine th_n ?_
  refine wpIn_ret ?_
  refine fin_r H15 (resC rfl H15 rfl hB4 ag48) ?_
  exact ⟨J3, hN, A5, c5, A6, c6, rfl, hLy⟩
set_option maxRecDepth 100000 in
set_option maxHeartbeats 400000 in
theorem lreceived_ret {A1 A2 : Option Addr} {c1 c2 : Nat} {x : Lk} {p : Pk} {D : Option Addr} {cd : Nat} {I : Im} {w : World} (hS : Sat I w) (hL : LkAt I x A1 c1 A2 c2) (hv : LkV x) (hP : PkAt I p D cd) :
    Ret Try.prog 25 [.agg #[.int .u64 x.key, .slice A1 x.out.length c1, .int .i64 x.base, .slice A2 x.inn.length c2, .int .i64 x.rcv], .agg #[.int .i64 p.seq, .int .i64 p.ack, .slice D p.data.length cd, .int .u64 p.chk]] w (SentPost I w (lrec x p) (lrecE x p)) := by
  refine ret_of (N := 16) Try.func25 rfl rfl rfl fun a0 H0 => ?_
  have hN := New.refl hS
  simp only [argsEnv, Nat.zero_add, Nat.reduceAdd] at H0
  refine wpIn_seq ?_
  refine w_reg ?_
  refine s_box H0 rfl rfl hN fun w1 b2 hN gw1 hB2 hgeb2 heb2 a1 H1 => ?_
  clear H0 a0
  replace hB2 : Box _ _ _ [_, _, _, _, _] 26 := hB2
  refine s_box H1 rfl rfl hN fun w2 b3 hN gw2 hB3 hgeb3 heb3 a2 H2 => ?_
  clear H1 a1
  replace hB3 : Box _ _ _ [_, _, _, _] 28 := hB3
  have hne_hB2_b3 := hB2.lt
  rw [← heb3] at hne_hB2_b3
  replace hB2 := hB2.gr gw2
  refine s_alloc H2 zv48 rfl hN fun w3 b4 hN gw3 hB4 hgeb4 heb4 a3 H3 => ?_
  clear H2 a2
  replace hB4 : Box _ _ _ [.int .u64 0, .slice none 0 0, .int .i64 0, .slice none 0 0, .int .i64 0, .int .i64 0] 48 := hB4
  have hne_hB2_b4 := hB2.lt
  rw [← heb4] at hne_hB2_b4
  have hne_hB3_b4 := hB3.lt
  rw [← heb4] at hne_hB3_b4
  replace hB2 := hB2.gr gw3
  replace hB3 := hB3.gr gw3
  refine wl_end ?_
  refine th_n ?_
  refine wpIn_seq ?_
  refine w_reg ?_
  refine wl1 H3 (r_loadA (cs := [_, _, _, _, _]) ag26 rfl hB2.agg) rfl rfl rfl rfl fun a4 H4 => ?_
  clear H3 a3
  refine wl1 H4 (r_loadA (cs := [_, _, _, _]) ag28 rfl hB3.agg) rfl rfl rfl rfl fun a5 H5 => ?_
  clear H4 a4
  refine wlc  H5 rfl rfl hb44 rfl (receive_ret hN.sat hL hv hP) fun v w4 hR a6 H6 => ?_
  clear H5 a5
  obtain ⟨J4, nw4, ⟨A5, c5, A6, c6, rfl, hLy⟩⟩ := hR
  replace hL := hL.up nw4.le
  replace hP := hP.up nw4.le
  replace hB2 := hB2.next nw4
  replace hB3 := hB3.next nw4
  replace hB4 := hB4.next nw4
  have hN := hN.trans nw4
  refine wl1 H6 (r_move rfl) rfl rfl rfl rfl fun a7 H7 => ?_
  clear H6 a6
  refine wl1 H7 (r_extract rfl rfl) rfl rfl rfl rfl fun a8 H8 => ?_
  clear H7 a7
  refine wl1 H8 (r_extract rfl rfl) rfl rfl rfl rfl fun a9 H9 => ?_
  clear H8 a8
  refine s_alloc H9 zv26 rfl hN fun w5 b5 hN gw5 hB5 hgeb5 heb5 a10 H10 => ?_
  clear H9 a9
  replace hB5 : Box _ _ _ [.int .u64 0, .slice none 0 0, .int .i64 0, .slice none 0 0, .int .i64 0] 26 := hB5
  have hne_hB2_b5 := hB2.lt
  rw [← heb5] at hne_hB2_b5
  have hne_hB3_b5 := hB3.lt
  rw [← heb5] at hne_hB3_b5
  have hne_hB4_b5 := hB4.lt
  rw [← heb5] at hne_hB4_b5
  replace hB2 := hB2.gr gw5
  replace hB3 := hB3.gr gw5
  replace hB4 := hB4.gr gw5
  refine s_storeA (vs := [_, _, _, _, _]) H10 sz26 (by simp) (by simp [Value.oneCell']) rfl rfl hN hB5 (by simp) hgeb5 fun w6 hN hB5 ew6 H11 => ?_
  clear H10
  replace hB2 := hB2.otherE ew6 (by omega)
  replace hB3 := hB3.otherE ew6 (by omega)
  replace hB4 := hB4.otherE ew6 (by omega)
  simp only [Nat.zero_add, Nat.add_zero, Nat.reduceAdd, Nat.reduceMul, List.set_cons_zero, List.set_cons_succ, spliceL] at hB5
  clear ew6
  refine wl1 H11 (r_assign rfl) rfl rfl rfl rfl fun a11 H12 => ?_
  clear H11 a10
  refine wl_end ?_
  refine th_n ?_
  refine wpIn_seq ?_
  refine w_reg ?_
  refine wl1 H12 (r_loadA (cs := [_, _, _, _, _]) ag26 rfl hB5.agg) rfl rfl rfl rfl fun a12 H13 => ?_
  clear H12 a11
  refine wl1 H13 (r_move rfl) rfl rfl rfl rfl fun a13 H14 => ?_
  clear H13 a12
  refine wl1 H14 (r_build (v := .agg #[.int .u64 (lrec x p).key, .slice A5 (lrec x p).out.length c5, .int .i64 (lrec x p).base, .slice A6 (lrec x p).inn.length c6, .int .i64 (lrec x p).rcv, .int .i64 (lrecE x p)]) rfl (fun w => by kernel_rfl)) rfl rfl rfl rfl fun a14 H15 => ?_
  clear H14 a13
  refine s_storeA (vs := [_, _, _, _, _, _]) H15 sz48 (by simp) (by simp [Value.oneCell']) rfl rfl hN hB4 (by simp) hgeb4 fun w7 hN hB4 ew7 H16 => ?_
  clear H15
  replace hB2 := hB2.otherE ew7 (by omega)
  replace hB3 := hB3.otherE ew7 (by omega)
  replace hB5 := hB5.otherE ew7 (by omega)
  simp only [Nat.zero_add, Nat.add_zero, Nat.reduceAdd, Nat.reduceMul, List.set_cons_zero, List.set_cons_succ, spliceL] at hB4
  clear ew7
  refine wl_end ?_
  refine th_n ?_
  refine wpIn_ret ?_
  refine fin_r H16 (resC rfl H16 rfl hB4 ag48) ?_
  exact ⟨J4, hN, A5, c5, A6, c6, rfl, hLy⟩
set_option maxRecDepth 100000 in
set_option maxHeartbeats 400000 in
theorem ltaken_ret {A1 A2 : Option Addr} {c1 c2 : Nat} {x : Lk} {I : Im} {w : World} (hS : Sat I w) (hL : LkAt I x A1 c1 A2 c2) (hv : LkV x) :
    Ret Try.prog 18 [.agg #[.int .u64 x.key, .slice A1 x.out.length c1, .int .i64 x.base, .slice A2 x.inn.length c2, .int .i64 x.rcv]] w (TakenPost I w (ltakeD x) (ltake x) (ltakeE x)) := by
  refine ret_of (N := 16) Try.func18 rfl rfl rfl fun a0 H0 => ?_
  have hN := New.refl hS
  simp only [argsEnv, Nat.zero_add, Nat.reduceAdd] at H0
  refine wpIn_seq ?_
  refine w_reg ?_
  refine s_box H0 rfl rfl hN fun w1 b1 hN gw1 hB1 hgeb1 heb1 a1 H1 => ?_
  clear H0 a0
  replace hB1 : Box _ _ _ [_, _, _, _, _] 26 := hB1
  refine s_alloc H1 zv41 rfl hN fun w2 b2 hN gw2 hB2 hgeb2 heb2 a2 H2 => ?_
  clear H1 a1
  replace hB2 : Box _ _ _ [.slice none 0 0, .int .u64 0, .slice none 0 0, .int .i64 0, .slice none 0 0, .int .i64 0, .int .i64 0] 41 := hB2
  have hne_hB1_b2 := hB1.lt
  rw [← heb2] at hne_hB1_b2
  replace hB1 := hB1.gr gw2
  refine wl_end ?_
  refine th_n ?_
  refine wpIn_seq ?_
  refine w_reg ?_
  refine wl1 H2 (r_loadA (cs := [_, _, _, _, _]) ag26 rfl hB1.agg) rfl rfl rfl rfl fun a3 H3 => ?_
  clear H2 a2
  refine wlc  H3 rfl rfl hb40 rfl (take_ret hN.sat hL hv) fun v w3 hR a4 H4 => ?_
  clear H3 a3
  obtain ⟨J3, nw3, ⟨D3, c3, A5, c5, A6, c6, rfl, hc3, hD3, hLy⟩⟩ := hR
  replace hL := hL.up nw3.le
  replace hB1 := hB1.next nw3
  replace hB2 := hB2.next nw3
  have hN := hN.trans nw3
  refine wl1 H4 (r_move rfl) rfl rfl rfl rfl fun a5 H5 => ?_
  clear H4 a4
  refine wl1 H5 (r_extract rfl rfl) rfl rfl rfl rfl fun a6 H6 => ?_
  clear H5 a5
  refine wl1 H6 (r_extract rfl rfl) rfl rfl rfl rfl fun a7 H7 => ?_
  clear H6 a6
  refine wl1 H7 (r_extract rfl rfl) rfl rfl rfl rfl fun a8 H8 => ?_
  clear H7 a7
  refine s_alloc H8 zv26 rfl hN fun w4 b4 hN gw4 hB4 hgeb4 heb4 a9 H9 => ?_
  clear H8 a8
  replace hB4 : Box _ _ _ [.int .u64 0, .slice none 0 0, .int .i64 0, .slice none 0 0, .int .i64 0] 26 := hB4
  have hne_hB1_b4 := hB1.lt
  rw [← heb4] at hne_hB1_b4
  have hne_hB2_b4 := hB2.lt
  rw [← heb4] at hne_hB2_b4
  replace hB1 := hB1.gr gw4
  replace hB2 := hB2.gr gw4
  refine wl1 H9 (r_assign rfl) rfl rfl rfl rfl fun a10 H10 => ?_
  clear H9 a9
  refine s_storeA (vs := [_, _, _, _, _]) H10 sz26 (by simp) (by simp [Value.oneCell']) rfl rfl hN hB4 (by simp) hgeb4 fun w5 hN hB4 ew5 H11 => ?_
  clear H10
  replace hB1 := hB1.otherE ew5 (by omega)
  replace hB2 := hB2.otherE ew5 (by omega)
  simp only [Nat.zero_add, Nat.add_zero, Nat.reduceAdd, Nat.reduceMul, List.set_cons_zero, List.set_cons_succ, spliceL] at hB4
  clear ew5
  refine wl1 H11 (r_assign rfl) rfl rfl rfl rfl fun a11 H12 => ?_
  clear H11 a10
  refine wl_end ?_
  refine th_n ?_
  refine wpIn_seq ?_
  refine w_reg ?_
  refine wl1 H12 (r_move rfl) rfl rfl rfl rfl fun a12 H13 => ?_
  clear H12 a11
  refine wl1 H13 (r_loadA (cs := [_, _, _, _, _]) ag26 rfl hB4.agg) rfl rfl rfl rfl fun a13 H14 => ?_
  clear H13 a12
  refine wl1 H14 (r_move rfl) rfl rfl rfl rfl fun a14 H15 => ?_
  clear H14 a13
  refine wl1 H15 (r_build (v := .agg #[.slice D3 (ltakeD x).length c3, .int .u64 (ltake x).key, .slice A5 (ltake x).out.length c5, .int .i64 (ltake x).base, .slice A6 (ltake x).inn.length c6, .int .i64 (ltake x).rcv, .int .i64 (ltakeE x)]) rfl (fun w => by kernel_rfl)) rfl rfl rfl rfl fun a15 H16 => ?_
  clear H15 a14
  refine s_storeA (vs := [_, _, _, _, _, _, _]) H16 sz41 (by simp) (by simp [Value.oneCell']) rfl rfl hN hB2 (by simp) hgeb2 fun w6 hN hB2 ew6 H17 => ?_
  clear H16
  replace hB1 := hB1.otherE ew6 (by omega)
  replace hB4 := hB4.otherE ew6 (by omega)
  simp only [Nat.zero_add, Nat.add_zero, Nat.reduceAdd, Nat.reduceMul, List.set_cons_zero, List.set_cons_succ, spliceL] at hB2
  clear ew6
  refine wl_end ?_
  refine th_n ?_
  refine wpIn_ret ?_
  refine fin_r H17 (resC rfl H17 rfl hB2 ag41) ?_
  exact ⟨J3, hN, D3, c3, A5, c5, A6, c6, rfl, hc3, hD3, hLy⟩
set_option maxRecDepth 100000 in
set_option maxHeartbeats 400000 in
theorem lpacket_ret {A1 A2 : Option Addr} {c1 c2 : Nat} {x : Lk} {i : Int} {I : Im} {w : World} (hS : Sat I w) (hL : LkAt I x A1 c1 A2 c2) (hv : LkV x) (hi0 : InK .i64 i) :
    Ret Try.prog 20 [.agg #[.int .u64 x.key, .slice A1 x.out.length c1, .int .i64 x.base, .slice A2 x.inn.length c2, .int .i64 x.rcv], .int .i64 i] w (PackedPost I w (lpacket x i) (lpacketE x i)) := by
  refine ret_of (N := 16) Try.func20 rfl rfl rfl fun a0 H0 => ?_
  have hN := New.refl hS
  simp only [argsEnv, Nat.zero_add, Nat.reduceAdd] at H0
  refine wpIn_seq ?_
  refine w_reg ?_
  refine s_box H0 rfl rfl hN fun w1 b2 hN gw1 hB2 hgeb2 heb2 a1 H1 => ?_
  clear H0 a0
  replace hB2 : Box _ _ _ [_, _, _, _, _] 26 := hB2
  refine s_alloc H1 zv44 rfl hN fun w2 b4 hN gw2 hB4 hgeb4 heb4 a2 H2 => ?_
  clear H1 a1
  replace hB4 : Box _ _ _ [.int .i64 0, .int .i64 0, .slice none 0 0, .int .u64 0, .int .i64 0] 44 := hB4
  have hne_hB2_b4 := hB2.lt
  rw [← heb4] at hne_hB2_b4
  replace hB2 := hB2.gr gw2
  refine wl_end ?_
  refine th_n ?_
  refine wpIn_seq ?_
  refine w_reg ?_
  refine wl1 H2 (r_loadA (cs := [_, _, _, _, _]) ag26 rfl hB2.agg) rfl rfl rfl rfl fun a3 H3 => ?_
  clear H2 a2
  refine wl1 H3 (r_move rfl) rfl rfl rfl rfl fun a4 H4 => ?_
  clear H3 a3
  refine wlc  H4 rfl rfl hb41 rfl (packet_ret hN.sat hL hv hi0) fun v w3 hR a5 H5 => ?_
  clear H4 a4
  obtain ⟨J3, nw3, ⟨A5, c5, rfl, hPy⟩⟩ := hR
  replace hL := hL.up nw3.le
  replace hB2 := hB2.next nw3
  replace hB4 := hB4.next nw3
  have hN := hN.trans nw3
  refine wl1 H5 (r_move rfl) rfl rfl rfl rfl fun a6 H6 => ?_
  clear H5 a5
  refine wl1 H6 (r_extract rfl rfl) rfl rfl rfl rfl fun a7 H7 => ?_
  clear H6 a6
  refine wl1 H7 (r_extract rfl rfl) rfl rfl rfl rfl fun a8 H8 => ?_
  clear H7 a7
  refine s_alloc H8 zv28 rfl hN fun w4 b5 hN gw4 hB5 hgeb5 heb5 a9 H9 => ?_
  clear H8 a8
  replace hB5 : Box _ _ _ [.int .i64 0, .int .i64 0, .slice none 0 0, .int .u64 0] 28 := hB5
  have hne_hB2_b5 := hB2.lt
  rw [← heb5] at hne_hB2_b5
  have hne_hB4_b5 := hB4.lt
  rw [← heb5] at hne_hB4_b5
  replace hB2 := hB2.gr gw4
  replace hB4 := hB4.gr gw4
  refine s_storeA (vs := [_, _, _, _]) H9 sz28 (by simp) (by simp [Value.oneCell']) rfl rfl hN hB5 (by simp) hgeb5 fun w5 hN hB5 ew5 H10 => ?_
  clear H9
  replace hB2 := hB2.otherE ew5 (by omega)
  replace hB4 := hB4.otherE ew5 (by omega)
  simp only [Nat.zero_add, Nat.add_zero, Nat.reduceAdd, Nat.reduceMul, List.set_cons_zero, List.set_cons_succ, spliceL] at hB5
  clear ew5
  refine wl1 H10 (r_assign rfl) rfl rfl rfl rfl fun a10 H11 => ?_
  clear H10 a9
  refine wl_end ?_
  refine th_n ?_
  refine wpIn_seq ?_
  refine w_reg ?_
  refine wl1 H11 (r_loadA (cs := [_, _, _, _]) ag28 rfl hB5.agg) rfl rfl rfl rfl fun a11 H12 => ?_
  clear H11 a10
  refine wl1 H12 (r_move rfl) rfl rfl rfl rfl fun a12 H13 => ?_
  clear H12 a11
  refine wl1 H13 (r_build (v := .agg #[.int .i64 (lpacket x i).seq, .int .i64 (lpacket x i).ack, .slice A5 (lpacket x i).data.length c5, .int .u64 (lpacket x i).chk, .int .i64 (lpacketE x i)]) rfl (fun w => by kernel_rfl)) rfl rfl rfl rfl fun a13 H14 => ?_
  clear H13 a12
  refine s_storeA (vs := [_, _, _, _, _]) H14 sz44 (by simp) (by simp [Value.oneCell']) rfl rfl hN hB4 (by simp) hgeb4 fun w6 hN hB4 ew6 H15 => ?_
  clear H14
  replace hB2 := hB2.otherE ew6 (by omega)
  replace hB5 := hB5.otherE ew6 (by omega)
  simp only [Nat.zero_add, Nat.add_zero, Nat.reduceAdd, Nat.reduceMul, List.set_cons_zero, List.set_cons_succ, spliceL] at hB4
  clear ew6
  refine wl_end ?_
  refine th_n ?_
  refine wpIn_ret ?_
  refine fin_r H15 (resC rfl H15 rfl hB4 ag44) ?_
  exact ⟨J3, hN, A5, c5, rfl, hPy⟩
set_option maxRecDepth 100000 in
set_option maxHeartbeats 400000 in
theorem sendin_ret {A1 A2 : Option Addr} {c1 c2 : Nat} {x : Lk} {D : Option Addr} {cd : Nat} {d : List Int} {I : Im} {w : World} (hS : Sat I w) (hL : LkAt I x A1 c1 A2 c2) (hv : LkV x) (hD : Els (kInt .u8) I D d) (hdc : d.length ≤ cd) :
    Ret Try.prog 24 [.agg #[.int .u64 x.key, .slice A1 x.out.length c1, .int .i64 x.base, .slice A2 x.inn.length c2, .int .i64 x.rcv], .slice D d.length cd] w (SentPost I w (lsend x d) (lsendE x d)) := by
  have hv1 := hv.o
  have hv2 := hv.b0
  have hv3 := hv.b1
  have hv4 := hv.i
  have hv5 := hv.r0
  have hv6 := hv.r1
  refine ret_of (N := 31) Try.func24 rfl rfl rfl fun a0 H0 => ?_
  have hN := New.refl hS
  simp only [argsEnv, Nat.zero_add, Nat.reduceAdd] at H0
  refine wpIn_seq ?_
  refine w_reg ?_
  refine s_box H0 rfl rfl hN fun w1 b2 hN gw1 hB2 hgeb2 heb2 a1 H1 => ?_
  clear H0 a0
  replace hB2 : Box _ _ _ [_, _, _, _, _] 26 := hB2
  refine s_alloc H1 zv48 rfl hN fun w2 b4 hN gw2 hB4 hgeb4 heb4 a2 H2 => ?_
  clear H1 a1
  replace hB4 : Box _ _ _ [.int .u64 0, .slice none 0 0, .int .i64 0, .slice none 0 0, .int .i64 0, .int .i64 0] 48 := hB4
  have hne_hB2_b4 := hB2.lt
  rw [← heb4] at hne_hB2_b4
  replace hB2 := hB2.gr gw2
  refine wl_end ?_
  refine th_n ?_
  refine wpIn_seq ?_
  refine wpIn_seq ?_
  refine w_reg ?_
  refine wl1 H2 (r_move rfl) rfl rfl rfl rfl fun a3 H3 => ?_
  clear H2 a2
  refine wl1 H3 (r_len Try.underlying23 rfl) rfl rfl rfl rfl fun a4 H4 => ?_
  clear H3 a3
  refine wl1 H4 (r_gtr rfl rfl) rfl rfl rfl rfl fun a5 H5 => ?_
  clear H4 a4
  refine wl1 H5 (r_move rfl) rfl rfl rfl rfl fun a6 H6 => ?_
  clear H5 a5
  refine wl_split (t := 8) H6 rfl (fun hg1_3 H7 => ?_) (fun hg1_3 H7 => ?_)
  ·
    clear H6
    try simp only [decide_eq_true_eq, decide_eq_false_iff_not, Bool.or_eq_true, Bool.and_eq_true, Bool.or_eq_false_iff, Bool.and_eq_false_iff, Bool.not_eq_true', Bool.not_eq_false', Int.not_lt, Int.not_le, ne_eq, Decidable.not_not] at hg1_3
    refine wl_off (d := 8) H7 rfl rfl rfl rfl rfl rfl fun a7 H8 => ?_
    clear H7 a6
    refine wl_off (d := 8) H8 rfl rfl rfl rfl rfl rfl fun a8 H9 => ?_
    clear H8 a7
    refine wl_off (d := 8) H9 rfl rfl rfl rfl rfl rfl fun a9 H10 => ?_
    clear H9 a8
    refine wl_off (d := 8) H10 rfl rfl rfl rfl rfl rfl fun a10 H11 => ?_
    clear H10 a9
    refine wl1 H11 (r_pick_t rfl rfl) rfl rfl rfl rfl fun a11 H12 => ?_
    clear H11 a10
    refine wl1 H12 (r_move rfl) rfl rfl rfl rfl fun a12 H13 => ?_
    clear H12 a11
    refine wl_off (d := 14) H13 rfl rfl rfl rfl rfl rfl fun a13 H14 => ?_
    clear H13 a12
    refine wl_off (d := 14) H14 rfl rfl rfl rfl rfl rfl fun a14 H15 => ?_
    clear H14 a13
    refine wl_off (d := 14) H15 rfl rfl rfl rfl rfl rfl fun a15 H16 => ?_
    clear H15 a14
    refine wl_off (d := 14) H16 rfl rfl rfl rfl rfl rfl fun a16 H17 => ?_
    clear H16 a15
    refine wl_off (d := 14) H17 rfl rfl rfl rfl rfl rfl fun a17 H18 => ?_
    clear H17 a16
    refine wl_off (d := 14) H18 rfl rfl rfl rfl rfl rfl fun a18 H19 => ?_
    clear H18 a17
    refine wl_off (d := 14) H19 rfl rfl rfl rfl rfl rfl fun a19 H20 => ?_
    clear H19 a18
    refine wl1 H20 (r_pick_t rfl rfl) rfl rfl rfl rfl fun a20 H21 => ?_
    clear H20 a19
    refine wl_end ?_
    refine th_n ?_
    refine w_tt H21 rfl rfl ?_
    refine wpIn_seq ?_
    refine w_reg ?_
    refine wl1 H21 (r_build (v := .agg #[.int .u64 0, .slice none 0 0, .int .i64 0, .slice none 0 0, .int .i64 0, .int .i64 2]) rfl (fun w => by kernel_rfl)) rfl rfl rfl rfl fun a21 H22 => ?_
    clear H21 a20
    refine s_storeA (vs := [_, _, _, _, _, _]) H22 sz48 (by simp) (by simp [Value.oneCell']) rfl rfl hN hB4 (by simp) hgeb4 fun w3 hN hB4 ew3 H23 => ?_
    clear H22
    replace hB2 := hB2.otherE ew3 (by omega)
    simp only [Nat.zero_add, Nat.add_zero, Nat.reduceAdd, Nat.reduceMul, List.set_cons_zero, List.set_cons_succ, spliceL] at hB4
    clear ew3
    refine wl_end ?_
    refine th_n ?_
    refine wpIn_ret ?_
    refine th_r ?_
    refine fin_r H23 (resC rfl H23 rfl hB4 ag48) ?_
    first
      | (have hbig : sendE x d := by unfold sendE; omega
         refine ⟨I, hN, none, 0, none, 0, ?_, ?_⟩
         · rw [show lsend x d = lk0 from if_pos hbig, show lsendE x d = 2 from if_pos hbig]; rfl
         · rw [show lsend x d = lk0 from if_pos hbig]; exact lkAt0 _)
      | (have hok : ¬ sendE x d := by unfold sendE; omega
         have he1 : lsend x d = { x with out := x.out ++ [d] } := if_neg hok
         have he2 : lsendE x d = 0 := if_neg hok
         rw [he1, he2]
         exact ⟨I, hN, A9, c9, A2, c2, rfl, ⟨hL.kk, hL.kb, hL.kr, hc9, hE9, hL.ic, hL.ie⟩⟩)
  ·
    clear H6
    try simp only [decide_eq_true_eq, decide_eq_false_iff_not, Bool.or_eq_true, Bool.and_eq_true, Bool.or_eq_false_iff, Bool.and_eq_false_iff, Bool.not_eq_true', Bool.not_eq_false', Int.not_lt, Int.not_le, ne_eq, Decidable.not_not] at hg1_3
    refine wl_on (d := 8) H7 rfl rfl rfl ?_
    refine wl1 H7 (r_fld fld26_1 rfl) rfl rfl rfl rfl fun a7 H24 => ?_
    clear H7 a6
    refine wl_on (d := 8) H24 rfl rfl rfl ?_
    refine wl1 H24 (r_load sc24 rfl (hB2.cell rfl)) rfl rfl rfl rfl fun a8 H25 => ?_
    clear H24 a7
    refine wl_on (d := 8) H25 rfl rfl rfl ?_
    refine wl1 H25 (r_len Try.underlying24 rfl) rfl rfl rfl rfl fun a9 H26 => ?_
    clear H25 a8
    refine wl_on (d := 8) H26 rfl rfl rfl ?_
    refine wl1 H26 (r_eql rfl rfl) rfl rfl rfl rfl fun a10 H27 => ?_
    clear H26 a9
    refine wl1 H27 (r_pick_f rfl rfl) rfl rfl rfl rfl fun a11 H28 => ?_
    clear H27 a10
    refine wl1 H28 (r_move rfl) rfl rfl rfl rfl fun a12 H29 => ?_
    clear H28 a11
    refine wl_split (t := 14) H29 rfl (fun hg1_9 H30 => ?_) (fun hg1_9 H30 => ?_)
    ·
      clear H29
      try simp only [decide_eq_true_eq, decide_eq_false_iff_not, Bool.or_eq_true, Bool.and_eq_true, Bool.or_eq_false_iff, Bool.and_eq_false_iff, Bool.not_eq_true', Bool.not_eq_false', Int.not_lt, Int.not_le, ne_eq, Decidable.not_not] at hg1_9
      refine wl_off (d := 14) H30 rfl rfl rfl rfl rfl rfl fun a13 H31 => ?_
      clear H30 a12
      refine wl_off (d := 14) H31 rfl rfl rfl rfl rfl rfl fun a14 H32 => ?_
      clear H31 a13
      refine wl_off (d := 14) H32 rfl rfl rfl rfl rfl rfl fun a15 H33 => ?_
      clear H32 a14
      refine wl_off (d := 14) H33 rfl rfl rfl rfl rfl rfl fun a16 H34 => ?_
      clear H33 a15
      refine wl_off (d := 14) H34 rfl rfl rfl rfl rfl rfl fun a17 H35 => ?_
      clear H34 a16
      refine wl_off (d := 14) H35 rfl rfl rfl rfl rfl rfl fun a18 H36 => ?_
      clear H35 a17
      refine wl_off (d := 14) H36 rfl rfl rfl rfl rfl rfl fun a19 H37 => ?_
      clear H36 a18
      refine wl1 H37 (r_pick_t rfl rfl) rfl rfl rfl rfl fun a20 H38 => ?_
      clear H37 a19
      refine wl_end ?_
      refine th_n ?_
      refine w_tt H38 rfl rfl ?_
      refine wpIn_seq ?_
      refine w_reg ?_
      refine wl1 H38 (r_build (v := .agg #[.int .u64 0, .slice none 0 0, .int .i64 0, .slice none 0 0, .int .i64 0, .int .i64 2]) rfl (fun w => by kernel_rfl)) rfl rfl rfl rfl fun a21 H39 => ?_
      clear H38 a20
      refine s_storeA (vs := [_, _, _, _, _, _]) H39 sz48 (by simp) (by simp [Value.oneCell']) rfl rfl hN hB4 (by simp) hgeb4 fun w4 hN hB4 ew4 H40 => ?_
      clear H39
      replace hB2 := hB2.otherE ew4 (by omega)
      simp only [Nat.zero_add, Nat.add_zero, Nat.reduceAdd, Nat.reduceMul, List.set_cons_zero, List.set_cons_succ, spliceL] at hB4
      clear ew4
      refine wl_end ?_
      refine th_n ?_
      refine wpIn_ret ?_
      refine th_r ?_
      refine fin_r H40 (resC rfl H40 rfl hB4 ag48) ?_
      first
        | (have hbig : sendE x d := by unfold sendE; omega
           refine ⟨I, hN, none, 0, none, 0, ?_, ?_⟩
           · rw [show lsend x d = lk0 from if_pos hbig, show lsendE x d = 2 from if_pos hbig]; rfl
           · rw [show lsend x d = lk0 from if_pos hbig]; exact lkAt0 _)
        | (have hok : ¬ sendE x d := by unfold sendE; omega
           have he1 : lsend x d = { x with out := x.out ++ [d] } := if_neg hok
           have he2 : lsendE x d = 0 := if_neg hok
           rw [he1, he2]
           exact ⟨I, hN, A9, c9, A2, c2, rfl, ⟨hL.kk, hL.kb, hL.kr, hc9, hE9, hL.ic, hL.ie⟩⟩)
    ·
      clear H29
      try simp only [decide_eq_true_eq, decide_eq_false_iff_not, Bool.or_eq_true, Bool.and_eq_true, Bool.or_eq_false_iff, Bool.and_eq_false_iff, Bool.not_eq_true', Bool.not_eq_false', Int.not_lt, Int.not_le, ne_eq, Decidable.not_not] at hg1_9
      refine wl_on (d := 14) H30 rfl rfl rfl ?_
      refine wl1 H30 (r_fld fld26_2 rfl) rfl rfl rfl rfl fun a13 H41 => ?_
      clear H30 a12
      refine wl_on (d := 14) H41 rfl rfl rfl ?_
      refine wl1 H41 (r_load sc3 rfl (hB2.cell rfl)) rfl rfl rfl rfl fun a14 H42 => ?_
      clear H41 a13
      refine wl_on (d := 14) H42 rfl rfl rfl ?_
      refine wl1 H42 (r_fld fld26_1 rfl) rfl rfl rfl rfl fun a15 H43 => ?_
      clear H42 a14
      refine wl_on (d := 14) H43 rfl rfl rfl ?_
      refine wl1 H43 (r_load sc24 rfl (hB2.cell rfl)) rfl rfl rfl rfl fun a16 H44 => ?_
      clear H43 a15
      refine wl_on (d := 14) H44 rfl rfl rfl ?_
      refine wl1 H44 (r_len Try.underlying24 rfl) rfl rfl rfl rfl fun a17 H45 => ?_
      clear H44 a16
      refine wl_on (d := 14) H45 rfl rfl rfl ?_
      first | refine wl1 H45 (r_addk rfl rfl (by simp only [InK]; omega)) rfl rfl rfl rfl fun a18 H46 => ?_ | refine wl1 H45 (r_add rfl rfl) rfl rfl rfl rfl fun a18 H46 => ?_
      clear H45 a17
      refine wl_on (d := 14) H46 rfl rfl rfl ?_
      refine wl1 H46 (r_eql rfl rfl) rfl rfl rfl rfl fun a19 H47 => ?_
      clear H46 a18
      refine wl1 H47 (r_pick_f rfl rfl) rfl rfl rfl rfl fun a20 H48 => ?_
      clear H47 a19
      refine wl_end ?_
      refine th_n ?_
      first | refine w_if H48 rfl (fun hc22 => ?_) (fun hc22 => ?_) | refine w_cond H48 rfl (fun hc22 => ?_) (fun hc22 => ?_)
      ·
        try simp only [decide_eq_true_eq, decide_eq_false_iff_not, Bool.or_eq_true, Bool.and_eq_true, Bool.or_eq_false_iff, Bool.and_eq_false_iff, Bool.not_eq_true', Bool.not_eq_false', Int.not_lt, Int.not_le, ne_eq, Decidable.not_not] at hc22
        refine wpIn_seq ?_
        refine w_reg ?_
        refine wl1 H48 (r_build (v := .agg #[.int .u64 0, .slice none 0 0, .int .i64 0, .slice none 0 0, .int .i64 0, .int .i64 2]) rfl (fun w => by kernel_rfl)) rfl rfl rfl rfl fun a21 H49 => ?_
        clear H48 a20
        refine s_storeA (vs := [_, _, _, _, _, _]) H49 sz48 (by simp) (by simp [Value.oneCell']) rfl rfl hN hB4 (by simp) hgeb4 fun w5 hN hB4 ew5 H50 => ?_
        clear H49
        replace hB2 := hB2.otherE ew5 (by omega)
        simp only [Nat.zero_add, Nat.add_zero, Nat.reduceAdd, Nat.reduceMul, List.set_cons_zero, List.set_cons_succ, spliceL] at hB4
        clear ew5
        refine wl_end ?_
        refine th_n ?_
        refine wpIn_ret ?_
        refine th_r ?_
        refine fin_r H50 (resC rfl H50 rfl hB4 ag48) ?_
        first
          | (have hbig : sendE x d := by unfold sendE; omega
             refine ⟨I, hN, none, 0, none, 0, ?_, ?_⟩
             · rw [show lsend x d = lk0 from if_pos hbig, show lsendE x d = 2 from if_pos hbig]; rfl
             · rw [show lsend x d = lk0 from if_pos hbig]; exact lkAt0 _)
          | (have hok : ¬ sendE x d := by unfold sendE; omega
             have he1 : lsend x d = { x with out := x.out ++ [d] } := if_neg hok
             have he2 : lsendE x d = 0 := if_neg hok
             rw [he1, he2]
             exact ⟨I, hN, A9, c9, A2, c2, rfl, ⟨hL.kk, hL.kb, hL.kr, hc9, hE9, hL.ic, hL.ie⟩⟩)
      ·
        try simp only [decide_eq_true_eq, decide_eq_false_iff_not, Bool.or_eq_true, Bool.and_eq_true, Bool.or_eq_false_iff, Bool.and_eq_false_iff, Bool.not_eq_true', Bool.not_eq_false', Int.not_lt, Int.not_le, ne_eq, Decidable.not_not] at hc22
        refine wpIn_skip ?_
        refine th_n ?_
        refine wpIn_seq ?_
        refine w_reg ?_
        refine wl1 H48 (r_fld fld26_1 rfl) rfl rfl rfl rfl fun a21 H51 => ?_
        clear H48 a20
        refine wl1 H51 (r_load sc24 rfl (hB2.cell rfl)) rfl rfl rfl rfl fun a22 H52 => ?_
        clear H51 a21
        refine wl1 H52 (r_move rfl) rfl rfl rfl rfl fun a23 H53 => ?_
        clear H52 a22
        refine wlc  H53 rfl rfl hb43 rfl (rwith50 hN.sat hL.oe (by omega) hD hdc) fun v w6 hR a24 H54 => ?_
        clear H53 a23
        obtain ⟨J6, nw6, ⟨A9, c9, rfl, hc9, hE9⟩⟩ := hR
        replace hL := hL.up nw6.le
        replace hD := hD.up nw6.le
        replace hB2 := hB2.next nw6
        replace hB4 := hB4.next nw6
        have hN := hN.trans nw6
        refine wl1 H54 (r_fld fld26_1 rfl) rfl rfl rfl rfl fun a25 H55 => ?_
        clear H54 a24
        refine s_store H55 sz24 rfl rfl rfl hN hB2 (by simp) hgeb2 fun w7 hN hB2 ew7 H56 => ?_
        clear H55
        replace hB4 := hB4.otherE ew7 (by omega)
        simp only [Nat.zero_add, Nat.add_zero, Nat.reduceAdd, Nat.reduceMul, List.set_cons_zero, List.set_cons_succ, spliceL] at hB2
        clear ew7
        refine wl_end ?_
        refine th_n ?_
        refine wpIn_seq ?_
        refine w_reg ?_
        refine wl1 H56 (r_loadA (cs := [_, _, _, _, _]) ag26 rfl hB2.agg) rfl rfl rfl rfl fun a26 H57 => ?_
        clear H56 a25
        refine wl1 H57 (r_build (v := .agg #[.int .u64 x.key, .slice A9 (x.out ++ [d]).length c9, .int .i64 x.base, .slice A2 x.inn.length c2, .int .i64 x.rcv, .int .i64 0]) rfl (fun w => by kernel_rfl)) rfl rfl rfl rfl fun a27 H58 => ?_
        clear H57 a26
        refine s_storeA (vs := [_, _, _, _, _, _]) H58 sz48 (by simp) (by simp [Value.oneCell']) rfl rfl hN hB4 (by simp) hgeb4 fun w8 hN hB4 ew8 H59 => ?_
        clear H58
        replace hB2 := hB2.otherE ew8 (by omega)
        simp only [Nat.zero_add, Nat.add_zero, Nat.reduceAdd, Nat.reduceMul, List.set_cons_zero, List.set_cons_succ, spliceL] at hB4
        clear ew8
        refine wl_end ?_
        refine th_n ?_
        refine wpIn_ret ?_
        refine fin_r H59 (resC rfl H59 rfl hB4 ag48) ?_
        first
          | (have hbig : sendE x d := by unfold sendE; omega
             refine ⟨J6, hN, none, 0, none, 0, ?_, ?_⟩
             · rw [show lsend x d = lk0 from if_pos hbig, show lsendE x d = 2 from if_pos hbig]; rfl
             · rw [show lsend x d = lk0 from if_pos hbig]; exact lkAt0 _)
          | (have hok : ¬ sendE x d := by unfold sendE; omega
             have he1 : lsend x d = { x with out := x.out ++ [d] } := if_neg hok
             have he2 : lsendE x d = 0 := if_neg hok
             rw [he1, he2]
             exact ⟨J6, hN, A9, c9, A2, c2, rfl, ⟨hL.kk, hL.kb, hL.kr, hc9, hE9, hL.ic, hL.ie⟩⟩)
set_option maxRecDepth 100000 in
set_option maxHeartbeats 400000 in
theorem takein_ret {A1 A2 : Option Addr} {c1 c2 : Nat} {x : Lk} {I : Im} {w : World} (hS : Sat I w) (hL : LkAt I x A1 c1 A2 c2) (hv : LkV x) :
    Ret Try.prog 19 [.agg #[.int .u64 x.key, .slice A1 x.out.length c1, .int .i64 x.base, .slice A2 x.inn.length c2, .int .i64 x.rcv]] w (TakenPost I w (ltakeD x) (ltake x) (ltakeE x)) := by
  have hv1 := hv.o
  have hv2 := hv.b0
  have hv3 := hv.b1
  have hv4 := hv.i
  have hv5 := hv.r0
  have hv6 := hv.r1
  have hoc := hL.oc
  have hic := hL.ic
  refine ret_of (N := 22) Try.func19 rfl rfl rfl fun a0 H0 => ?_
  have hN := New.refl hS
  simp only [argsEnv, Nat.zero_add, Nat.reduceAdd] at H0
  refine wpIn_seq ?_
  refine w_reg ?_
  refine s_box H0 rfl rfl hN fun w1 b1 hN gw1 hB1 hgeb1 heb1 a1 H1 => ?_
  clear H0 a0
  replace hB1 : Box _ _ _ [_, _, _, _, _] 26 := hB1
  refine s_alloc H1 zv41 rfl hN fun w2 b2 hN gw2 hB2 hgeb2 heb2 a2 H2 => ?_
  clear H1 a1
  replace hB2 : Box _ _ _ [.slice none 0 0, .int .u64 0, .slice none 0 0, .int .i64 0, .slice none 0 0, .int .i64 0, .int .i64 0] 41 := hB2
  have hne_hB1_b2 := hB1.lt
  rw [← heb2] at hne_hB1_b2
  replace hB1 := hB1.gr gw2
  refine wl_end ?_
  refine th_n ?_
  refine wpIn_seq ?_
  refine wpIn_seq ?_
  refine w_reg ?_
  refine wl1 H2 (r_fld fld26_3 rfl) rfl rfl rfl rfl fun a3 H3 => ?_
  clear H2 a2
  refine wl1 H3 (r_load sc24 rfl (hB1.cell rfl)) rfl rfl rfl rfl fun a4 H4 => ?_
  clear H3 a3
  refine wl1 H4 (r_len Try.underlying24 rfl) rfl rfl rfl rfl fun a5 H5 => ?_
  clear H4 a4
  refine wl1 H5 (r_eql rfl rfl) rfl rfl rfl rfl fun a6 H6 => ?_
  clear H5 a5
  refine wl_end ?_
  refine th_n ?_
  first | refine w_if H6 rfl (fun hc7 => ?_) (fun hc7 => ?_) | refine w_cond H6 rfl (fun hc7 => ?_) (fun hc7 => ?_)
  ·
    try simp only [decide_eq_true_eq, decide_eq_false_iff_not, Bool.or_eq_true, Bool.and_eq_true, Bool.or_eq_false_iff, Bool.and_eq_false_iff, Bool.not_eq_true', Bool.not_eq_false', Int.not_lt, Int.not_le, ne_eq, Decidable.not_not] at hc7
    have hx0 : x.inn = [] := List.eq_nil_of_length_eq_zero (by omega)
    refine wpIn_seq ?_
    refine w_reg ?_
    refine wl1 H6 (r_build (v := .agg #[.slice none 0 0, .int .u64 0, .slice none 0 0, .int .i64 0, .slice none 0 0, .int .i64 0, .int .i64 4]) rfl (fun w => by kernel_rfl)) rfl rfl rfl rfl fun a7 H7 => ?_
    clear H6 a6
    refine s_storeA (vs := [_, _, _, _, _, _, _]) H7 sz41 (by simp) (by simp [Value.oneCell']) rfl rfl hN hB2 (by simp) hgeb2 fun w3 hN hB2 ew3 H8 => ?_
    clear H7
    replace hB1 := hB1.otherE ew3 (by omega)
    simp only [Nat.zero_add, Nat.add_zero, Nat.reduceAdd, Nat.reduceMul, List.set_cons_zero, List.set_cons_succ, spliceL] at hB2
    clear ew3
    refine wl_end ?_
    refine th_n ?_
    refine wpIn_ret ?_
    refine th_r ?_
    refine fin_r H8 (resC rfl H8 rfl hB2 ag41) ?_
    refine ⟨I, hN, none, 0, none, 0, none, 0, ?_, ?_, ?_, ?_⟩
    · rw [show ltakeD x = [] by unfold ltakeD; rw [hx0]; rfl, show ltake x = lk0 from if_pos (by rw [hx0]; rfl), show ltakeE x = 4 from if_pos (by rw [hx0]; rfl)]; rfl
    · rw [show ltakeD x = [] by unfold ltakeD; rw [hx0]; rfl]; exact Nat.le_refl _
    · rw [show ltakeD x = [] by unfold ltakeD; rw [hx0]; rfl]; exact Els.nil _ _ _
    · rw [show ltake x = lk0 from if_pos (by rw [hx0]; rfl)]; exact lkAt0 _
  ·
    try simp only [decide_eq_true_eq, decide_eq_false_iff_not, Bool.or_eq_true, Bool.and_eq_true, Bool.or_eq_false_iff, Bool.and_eq_false_iff, Bool.not_eq_true', Bool.not_eq_false', Int.not_lt, Int.not_le, ne_eq, Decidable.not_not] at hc7
    have hx0 : ¬ x.inn.length = 0 := by omega
    obtain ⟨bI, oI, hA2⟩ := hL.ie.form (by omega)
    subst hA2
    obtain ⟨AA, cA, hcA, hlA, hEA⟩ := hL.ie.rowAt (show 0 < x.inn.length by omega)
    obtain ⟨d0, hd0⟩ : ∃ d0, d0 = x.inn[0] := ⟨_, rfl⟩
    rw [← hd0] at hcA hlA hEA
    refine wpIn_skip ?_
    refine th_n ?_
    refine wpIn_seq ?_
    refine w_reg ?_
    refine wl1 H6 (r_fld fld26_3 rfl) rfl rfl rfl rfl fun a7 H9 => ?_
    clear H6 a6
    refine wl1 H9 (r_load sc24 rfl (hB1.cell rfl)) rfl rfl rfl rfl fun a8 H10 => ?_
    clear H9 a7
    refine wl1 H10 (r_idx Try.underlying24 sz23 rfl rfl (i := 0) rfl (by omega)) rfl rfl rfl rfl fun a9 H11 => ?_
    clear H10 a8
    refine wl1 H11 (r_load sc23 rfl (hN.sat.cell hcA)) rfl rfl rfl rfl fun a10 H12 => ?_
    clear H11 a9
    refine wl1 H12 (r_assign rfl) rfl rfl rfl rfl fun a11 H13 => ?_
    clear H12 a10
    refine wl_end ?_
    refine th_n ?_
    refine wpIn_seq ?_
    refine w_reg ?_
    obtain ⟨B9, hBw⟩ : ∃ B, B = (w2).heap.size := ⟨_, rfl⟩
    have hlt1b := hB1.lt
    have hlt2b := hB2.lt
    have hwB : w.heap.size ≤ B9 := by rw [hBw]; exact hN.gr.size
    have hszB : B9 ≤ (w2).heap.size := Nat.le_of_eq hBw
    refine s_lit1 (cs := []) H13 Try.underlying24 sz23 zv23 rfl rfl rfl (by simp [Value.oneCell']) rfl hN fun w4 l13 K4 hKl13 hlel13 hN nw4 hgel13 a12 H14 => ?_
    clear H13 a11
    replace hL := hL.up nw4.le
    replace hEA := hEA.up nw4.le
    replace hB1 := hB1.next nw4
    replace hB2 := hB2.next nw4
    replace hszB := Nat.le_trans hszB nw4.gr.size
    refine wl1 H14 (r_fld fld26_3 rfl) rfl rfl rfl rfl fun a13 H15 => ?_
    clear H14 a12
    refine wl1 H15 (r_load sc24 rfl (hB1.cell rfl)) rfl rfl rfl rfl fun a14 H16 => ?_
    clear H15 a13
    refine wl1 H16 (r_from (lo := 1) Try.underlying24 sz23 rfl rfl rfl (by omega) (by omega)) rfl rfl rfl rfl fun a15 H17 => ?_
    clear H16 a14
    refine s_app (d := kB) (B := B9) H17 rfl rfl Try.underlying24 nf23 rfl (by decide) (by decide) rfl hN (.inr ⟨_, rfl, Els.nil _ _ _⟩) (hL.ie.off (lo := 1) hL.ic) (by simp) hwB hszB (by simp; omega) fun vw5 w5 hO hOO hOO2 kw5 hN a16 H18 => ?_
    clear H17 a15
    replace hB1 := hB1.keep kw5 (by omega)
    replace hB2 := hB2.keep kw5 (by omega)
    replace hszB := Nat.le_trans hszB kw5.size
    rw [List.nil_append] at hO
    obtain ⟨Kz5, Az, cAz, hN, hleKz5, hsmKz5, rfl, hcAz, hEz⟩ := hO.freeze hN hwB
    replace hB1 := hB1.same (hsmKz5 _ (by omega))
    replace hB2 := hB2.same (hsmKz5 _ (by omega))
    replace hL := hL.up hleKz5
    replace hEA := hEA.up hleKz5
    refine wl1 H18 (r_fld fld26_3 rfl) rfl rfl rfl rfl fun a17 H19 => ?_
    clear H18 a16
    refine s_store H19 sz24 rfl rfl rfl hN hB1 (by simp) hgeb1 fun w7 hN hB1 ew7 H20 => ?_
    clear H19
    replace hB2 := hB2.otherE ew7 (by omega)
    replace hszB := sz_setB ew7 hszB
    simp only [Nat.zero_add, Nat.add_zero, Nat.reduceAdd, Nat.reduceMul, List.set_cons_zero, List.set_cons_succ, spliceL] at hB1
    clear ew7
    refine wl_end ?_
    refine th_n ?_
    refine wpIn_seq ?_
    refine w_reg ?_
    refine wl1 H20 (r_move rfl) rfl rfl rfl rfl fun a18 H21 => ?_
    clear H20 a17
    refine wl1 H21 (r_loadA (cs := [_, _, _, _, _]) ag26 rfl hB1.agg) rfl rfl rfl rfl fun a19 H22 => ?_
    clear H21 a18
    refine wl1 H22 (r_build (v := .agg #[.slice AA d0.length cA, .int .u64 x.key, .slice A1 x.out.length c1, .int .i64 x.base, .slice Az (x.inn.drop 1).length cAz, .int .i64 x.rcv, .int .i64 0]) rfl (fun w => by kernel_rfl)) rfl rfl rfl rfl fun a20 H23 => ?_
    clear H22 a19
    refine s_storeA (vs := [_, _, _, _, _, _, _]) H23 sz41 (by simp) (by simp [Value.oneCell']) rfl rfl hN hB2 (by simp) hgeb2 fun w8 hN hB2 ew8 H24 => ?_
    clear H23
    replace hB1 := hB1.otherE ew8 (by omega)
    replace hszB := sz_setB ew8 hszB
    simp only [Nat.zero_add, Nat.add_zero, Nat.reduceAdd, Nat.reduceMul, List.set_cons_zero, List.set_cons_succ, spliceL] at hB2
    clear ew8
    refine wl_end ?_
    refine th_n ?_
    refine wpIn_ret ?_
    refine fin_r H24 (resC rfl H24 rfl hB2 ag41) ?_
    rw [ltakeD_cons hx0, ← hd0, show ltake x = { x with inn := x.inn.drop 1 } from if_neg hx0, show ltakeE x = 0 from if_neg hx0]
    exact ⟨Kz5, hN, AA, cA, A1, c1, Az, cAz, rfl, hlA, hEA, ⟨hL.kk, hL.kb, hL.kr, hL.oc, hL.oe, hcAz, hEz⟩⟩
set_option maxRecDepth 100000 in
set_option maxHeartbeats 2000000 in
theorem recin_ret {A1 A2 : Option Addr} {c1 c2 : Nat} {x : Lk} {p : Pk} {D : Option Addr} {cd : Nat} {I : Im} {w : World} (hS : Sat I w) (hL : LkAt I x A1 c1 A2 c2) (hv : LkV x) (hP : PkAt I p D cd) (hdl : p.data.length ≤ 1048000) :
    Ret Try.prog 26 [.agg #[.int .u64 x.key, .slice A1 x.out.length c1, .int .i64 x.base, .slice A2 x.inn.length c2, .int .i64 x.rcv], .agg #[.int .i64 p.seq, .int .i64 p.ack, .slice D p.data.length cd, .int .u64 p.chk]] w (SentPost I w (lrec x p) (lrecE x p)) := by
  have hv1 := hv.o
  have hv2 := hv.b0
  have hv3 := hv.b1
  have hv4 := hv.i
  have hv5 := hv.r0
  have hv6 := hv.r1
  have hk1 := hP.ks
  have hk2 := hP.ka
  simp only [InK] at hk1 hk2
  have hoc := hL.oc
  have hic := hL.ic
  refine ret_of (N := 98) Try.func26 rfl rfl rfl fun a0 H0 => ?_
  have hN := New.refl hS
  simp only [argsEnv, Nat.zero_add, Nat.reduceAdd] at H0
  refine wpIn_seq ?_
  refine w_reg ?_
  refine s_box H0 rfl rfl hN fun w1 b2 hN gw1 hB2 hgeb2 heb2 a1 H1 => ?_
  clear H0 a0
  replace hB2 : Box _ _ _ [_, _, _, _, _] 26 := hB2
  refine s_box H1 rfl rfl hN fun w2 b3 hN gw2 hB3 hgeb3 heb3 a2 H2 => ?_
  clear H1 a1
  replace hB3 : Box _ _ _ [_, _, _, _] 28 := hB3
  have hne_hB2_b3 := hB2.lt
  rw [← heb3] at hne_hB2_b3
  replace hB2 := hB2.gr gw2
  refine s_alloc H2 zv48 rfl hN fun w3 b4 hN gw3 hB4 hgeb4 heb4 a3 H3 => ?_
  clear H2 a2
  replace hB4 : Box _ _ _ [.int .u64 0, .slice none 0 0, .int .i64 0, .slice none 0 0, .int .i64 0, .int .i64 0] 48 := hB4
  have hne_hB2_b4 := hB2.lt
  rw [← heb4] at hne_hB2_b4
  have hne_hB3_b4 := hB3.lt
  rw [← heb4] at hne_hB3_b4
  replace hB2 := hB2.gr gw3
  replace hB3 := hB3.gr gw3
  refine wl_end ?_
  refine th_n ?_
  refine wpIn_seq ?_
  refine wpIn_seq ?_
  have hS0 := hN.sat
  have hNsz1 := hN.gr.size
  refine w_drawE (m := 45) (l0 := [(2, _), (3, _), (4, _)]) hfol H3 ⟨rfl, rfl, rfl, trivial⟩ (by kernel_rfl) ?_
  refine ⟨_, false, (fun σ ι w1 hg hd hon => by
      exact OpOK.sub (r := [(2, _), (3, _), (4, _)]) ⟨rfl, rfl, rfl, trivial⟩ (by
        exact OpOK.eq (r_fld fld28_3 rfl))
      ), (fun _ _ _ _ _ _ h => h), (FreeR.no _), ?_⟩
  refine ⟨_, false, (fun σ ι w1 hg hd hon => by
      have hN := hN.ofGr ((Gr.refl _).drew.trans hg)
      have hB2 := hB2.gr ((Gr.refl _).drew.trans hg)
      have hB3 := hB3.gr ((Gr.refl _).drew.trans hg)
      have hB4 := hB4.gr ((Gr.refl _).drew.trans hg)
      have f0 := hd 0 (by decide) _ rfl
      have e0 : σ 0 = _ := f0.1 trivial
      exact OpOK.sub (r := [(5, _), (2, _), (3, _), (4, _)]) ⟨congrArg some e0, rfl, rfl, rfl, trivial⟩ (by
        exact OpOK.eq (r_load sc22 rfl (hB3.cell rfl)))
      ), (fun _ _ _ _ _ _ h => h), (FreeR.no _), ?_⟩
  refine ⟨_, false, (fun σ ι w1 hg hd hon => by
      exact OpOK.sub (r := [(2, _), (3, _), (4, _)]) ⟨rfl, rfl, rfl, trivial⟩ (by
        exact OpOK.eq (r_fld fld26_0 rfl))
      ), (fun _ _ _ _ _ _ h => h), (FreeR.no _), ?_⟩
  refine ⟨_, false, (fun σ ι w1 hg hd hon => by
      have hN := hN.ofGr ((Gr.refl _).drew.trans hg)
      have hB2 := hB2.gr ((Gr.refl _).drew.trans hg)
      have hB3 := hB3.gr ((Gr.refl _).drew.trans hg)
      have hB4 := hB4.gr ((Gr.refl _).drew.trans hg)
      have f2 := hd 2 (by decide) _ rfl
      have e2 : σ 2 = _ := f2.1 trivial
      exact OpOK.sub (r := [(7, _), (2, _), (3, _), (4, _)]) ⟨congrArg some e2, rfl, rfl, rfl, trivial⟩ (by
        exact OpOK.eq (r_load sc22 rfl (hB2.cell rfl)))
      ), (fun _ _ _ _ _ _ h => h), (FreeR.no _), ?_⟩
  refine ⟨_, false, (fun σ ι w1 hg hd hon => by
      have hN := hN.ofGr ((Gr.refl _).drew.trans hg)
      have hB2 := hB2.gr ((Gr.refl _).drew.trans hg)
      have hB3 := hB3.gr ((Gr.refl _).drew.trans hg)
      have hB4 := hB4.gr ((Gr.refl _).drew.trans hg)
      exact OpOK.sub (r := [(2, _), (3, _), (4, _)]) ⟨rfl, rfl, rfl, trivial⟩ (by
        exact OpOK.eq (r_loadA (cs := [_, _, _, _]) ag28 rfl hB3.agg))
      ), (fun _ _ _ _ _ _ h => h), (FreeR.no _), ?_⟩
  refine ⟨_, true, (fun σ ι w1 hg hd hon => by
      have hN := hN.ofGr ((Gr.refl _).drew.trans hg)
      have hB2 := hB2.gr ((Gr.refl _).drew.trans hg)
      have hB3 := hB3.gr ((Gr.refl _).drew.trans hg)
      have hB4 := hB4.gr ((Gr.refl _).drew.trans hg)
      have f3 := hd 3 (by decide) _ rfl
      have f4 := hd 4 (by decide) _ rfl
      have e3 : σ 3 = _ := f3.1 trivial
      have e4 : σ 4 = _ := f4.1 trivial
      skip
      exact CallOK.sub (r := [(8, _), (9, _), (2, _), (3, _), (4, _)]) ⟨congrArg some e3, congrArg some e4, rfl, rfl, rfl, trivial⟩ (by
        exact CallOK.V (enters_of rfl rfl hb17) (rtag50 hN.sat hP hdl))
      ), (fun _ _ _ _ _ _ h => h), (fun _ _ _ _ _ _ h => h), ?_⟩
  refine ⟨_, false, (fun σ ι w1 hg hd hon => by
      have f1 := hd 1 (by decide) _ rfl
      have f5 := hd 5 (by decide) _ rfl
      have e1 : σ 1 = _ := f1.1 trivial
      have e5 : σ 5 = _ := f5.1 trivial
      exact OpOK.sub (r := [(6, _), (10, _), (2, _), (3, _), (4, _)]) ⟨congrArg some e1, congrArg some e5, rfl, rfl, rfl, trivial⟩ (by
        exact OpOK.eq (r_neq rfl rfl))
      ), (fun _ _ _ _ _ _ h => h), (FreeR.no _), ?_⟩
  refine ⟨_, false, (fun σ ι w1 hg hd hon => by
      have f6 := hd 6 (by decide) _ rfl
      have e6 : σ 6 = _ := f6.1 trivial
      exact OpOK.sub (r := [(11, _), (2, _), (3, _), (4, _)]) ⟨congrArg some e6, rfl, rfl, rfl, trivial⟩ (by
        exact OpOK.eq (r_move rfl))
      ), (fun _ _ _ _ _ _ h => h), (FreeR.no _), ?_⟩
  refine ⟨_, false, (fun σ ι w1 hg hd hon => by
      have f7 := hd 7 (by decide) _ rfl
      have e7 : σ 7 = _ := f7.1 trivial
      have hgd : σ 7 = .bool false := hon
      have hgb := (f7.1 trivial : σ 7 = _).symm.trans hgd
      simp only [Value.bool.injEq] at hgb
      try simp only [decide_eq_true_eq, decide_eq_false_iff_not, Bool.or_eq_true, Bool.and_eq_true, Bool.or_eq_false_iff, Bool.and_eq_false_iff, Bool.not_eq_true', Bool.not_eq_false', Int.not_lt, Int.not_le, ne_eq, Decidable.not_not] at hgb
      exact OpOK.sub (r := [(2, _), (3, _), (4, _)]) ⟨rfl, rfl, rfl, trivial⟩ (by
        exact OpOK.eq (r_fld fld28_0 rfl))
      ), (fun _ _ _ _ _ _ h => h), (FreeR.no _), ?_⟩
  refine ⟨_, false, (fun σ ι w1 hg hd hon => by
      have hN := hN.ofGr ((Gr.refl _).drew.trans hg)
      have hB2 := hB2.gr ((Gr.refl _).drew.trans hg)
      have hB3 := hB3.gr ((Gr.refl _).drew.trans hg)
      have hB4 := hB4.gr ((Gr.refl _).drew.trans hg)
      have f8 := hd 8 (by decide) _ rfl
      have f7 := hd 7 (by decide) _ rfl
      have e8 : σ 8 = _ := f8.1 hon
      have e7 : σ 7 = _ := f7.1 trivial
      have hgd : σ 7 = .bool false := hon
      have hgb := (f7.1 trivial : σ 7 = _).symm.trans hgd
      simp only [Value.bool.injEq] at hgb
      try simp only [decide_eq_true_eq, decide_eq_false_iff_not, Bool.or_eq_true, Bool.and_eq_true, Bool.or_eq_false_iff, Bool.and_eq_false_iff, Bool.not_eq_true', Bool.not_eq_false', Int.not_lt, Int.not_le, ne_eq, Decidable.not_not] at hgb
      exact OpOK.sub (r := [(13, _), (2, _), (3, _), (4, _)]) ⟨congrArg some e8, rfl, rfl, rfl, trivial⟩ (by
        exact OpOK.eq (r_load sc3 rfl (hB3.cell rfl)))
      ), (fun _ _ _ _ _ _ h => h), (FreeR.no _), ?_⟩
  refine ⟨_, false, (fun σ ι w1 hg hd hon => by
      have f9 := hd 9 (by decide) _ rfl
      have f7 := hd 7 (by decide) _ rfl
      have e9 : σ 9 = _ := f9.1 hon
      have e7 : σ 7 = _ := f7.1 trivial
      have hgd : σ 7 = .bool false := hon
      have hgb := (f7.1 trivial : σ 7 = _).symm.trans hgd
      simp only [Value.bool.injEq] at hgb
      try simp only [decide_eq_true_eq, decide_eq_false_iff_not, Bool.or_eq_true, Bool.and_eq_true, Bool.or_eq_false_iff, Bool.and_eq_false_iff, Bool.not_eq_true', Bool.not_eq_false', Int.not_lt, Int.not_le, ne_eq, Decidable.not_not] at hgb
      exact OpOK.sub (r := [(14, _), (2, _), (3, _), (4, _)]) ⟨congrArg some e9, rfl, rfl, rfl, trivial⟩ (by
        exact OpOK.eq (r_lss rfl rfl))
      ), (fun _ _ _ _ _ _ h => h), (FreeR.no _), ?_⟩
  refine ⟨_, false, (fun σ ι w1 hg hd hon => by
      have f7 := hd 7 (by decide) _ rfl
      have f10 := hd 10 (by decide) _ rfl
      have e7 : σ 7 = _ := f7.1 trivial
      have ec : σ 7 = _ := f7.1 trivial
      exact OpOK.id (by refine OpOK.or (dc := 12) (dy := 15) (kc := σ 7) (ky := σ 10) ?_ ?_ ec (fun hb => f10.1 (by show σ 7 = _; rw [ec]; exact congrArg Value.bool hb)) <;> rfl)
      ), (fun _ _ _ _ _ _ h => h), (FreeR.no _), ?_⟩
  refine ⟨_, false, (fun σ ι w1 hg hd hon => by
      have f11 := hd 11 (by decide) _ rfl
      have e11 : σ 11 = _ := f11.1 trivial
      exact OpOK.sub (r := [(16, _), (2, _), (3, _), (4, _)]) ⟨congrArg some e11, rfl, rfl, rfl, trivial⟩ (by
        exact OpOK.eq (r_move rfl))
      ), (fun _ _ _ _ _ _ h => h), (FreeR.no _), ?_⟩
  refine ⟨_, false, (fun σ ι w1 hg hd hon => by
      have f12 := hd 12 (by decide) _ rfl
      have e12 : σ 12 = _ := f12.1 trivial
      have hgd : σ 12 = .bool false := hon
      have hgb := (f12.1 trivial : σ 12 = _).symm.trans hgd
      simp only [Value.bool.injEq] at hgb
      try simp only [decide_eq_true_eq, decide_eq_false_iff_not, Bool.or_eq_true, Bool.and_eq_true, Bool.or_eq_false_iff, Bool.and_eq_false_iff, Bool.not_eq_true', Bool.not_eq_false', Int.not_lt, Int.not_le, ne_eq, Decidable.not_not] at hgb
      exact OpOK.sub (r := [(2, _), (3, _), (4, _)]) ⟨rfl, rfl, rfl, trivial⟩ (by
        exact OpOK.eq (r_fld fld28_1 rfl))
      ), (fun _ _ _ _ _ _ h => h), (FreeR.no _), ?_⟩
  refine ⟨_, false, (fun σ ι w1 hg hd hon => by
      have hN := hN.ofGr ((Gr.refl _).drew.trans hg)
      have hB2 := hB2.gr ((Gr.refl _).drew.trans hg)
      have hB3 := hB3.gr ((Gr.refl _).drew.trans hg)
      have hB4 := hB4.gr ((Gr.refl _).drew.trans hg)
      have f13 := hd 13 (by decide) _ rfl
      have f12 := hd 12 (by decide) _ rfl
      have e13 : σ 13 = _ := f13.1 hon
      have e12 : σ 12 = _ := f12.1 trivial
      have hgd : σ 12 = .bool false := hon
      have hgb := (f12.1 trivial : σ 12 = _).symm.trans hgd
      simp only [Value.bool.injEq] at hgb
      try simp only [decide_eq_true_eq, decide_eq_false_iff_not, Bool.or_eq_true, Bool.and_eq_true, Bool.or_eq_false_iff, Bool.and_eq_false_iff, Bool.not_eq_true', Bool.not_eq_false', Int.not_lt, Int.not_le, ne_eq, Decidable.not_not] at hgb
      exact OpOK.sub (r := [(18, _), (2, _), (3, _), (4, _)]) ⟨congrArg some e13, rfl, rfl, rfl, trivial⟩ (by
        exact OpOK.eq (r_load sc3 rfl (hB3.cell rfl)))
      ), (fun _ _ _ _ _ _ h => h), (FreeR.no _), ?_⟩
  refine ⟨_, false, (fun σ ι w1 hg hd hon => by
      have f14 := hd 14 (by decide) _ rfl
      have f12 := hd 12 (by decide) _ rfl
      have e14 : σ 14 = _ := f14.1 hon
      have e12 : σ 12 = _ := f12.1 trivial
      have hgd : σ 12 = .bool false := hon
      have hgb := (f12.1 trivial : σ 12 = _).symm.trans hgd
      simp only [Value.bool.injEq] at hgb
      try simp only [decide_eq_true_eq, decide_eq_false_iff_not, Bool.or_eq_true, Bool.and_eq_true, Bool.or_eq_false_iff, Bool.and_eq_false_iff, Bool.not_eq_true', Bool.not_eq_false', Int.not_lt, Int.not_le, ne_eq, Decidable.not_not] at hgb
      exact OpOK.sub (r := [(19, _), (2, _), (3, _), (4, _)]) ⟨congrArg some e14, rfl, rfl, rfl, trivial⟩ (by
        exact OpOK.eq (r_lss rfl rfl))
      ), (fun _ _ _ _ _ _ h => h), (FreeR.no _), ?_⟩
  refine ⟨_, false, (fun σ ι w1 hg hd hon => by
      have f12 := hd 12 (by decide) _ rfl
      have f15 := hd 15 (by decide) _ rfl
      have e12 : σ 12 = _ := f12.1 trivial
      have ec : σ 12 = _ := f12.1 trivial
      exact OpOK.id (by refine OpOK.or (dc := 17) (dy := 20) (kc := σ 12) (ky := σ 15) ?_ ?_ ec (fun hb => f15.1 (by show σ 12 = _; rw [ec]; exact congrArg Value.bool hb)) <;> rfl)
      ), (fun _ _ _ _ _ _ h => h), (FreeR.no _), ?_⟩
  refine ⟨_, false, (fun σ ι w1 hg hd hon => by
      have f16 := hd 16 (by decide) _ rfl
      have e16 : σ 16 = _ := f16.1 trivial
      exact OpOK.sub (r := [(21, _), (2, _), (3, _), (4, _)]) ⟨congrArg some e16, rfl, rfl, rfl, trivial⟩ (by
        exact OpOK.eq (r_move rfl))
      ), (fun _ _ _ _ _ _ h => h), (FreeR.no _), ?_⟩
  refine ⟨_, false, (fun σ ι w1 hg hd hon => by
      have f17 := hd 17 (by decide) _ rfl
      have e17 : σ 17 = _ := f17.1 trivial
      have hgd : σ 17 = .bool false := hon
      have hgb := (f17.1 trivial : σ 17 = _).symm.trans hgd
      simp only [Value.bool.injEq] at hgb
      try simp only [decide_eq_true_eq, decide_eq_false_iff_not, Bool.or_eq_true, Bool.and_eq_true, Bool.or_eq_false_iff, Bool.and_eq_false_iff, Bool.not_eq_true', Bool.not_eq_false', Int.not_lt, Int.not_le, ne_eq, Decidable.not_not] at hgb
      exact OpOK.sub (r := [(2, _), (3, _), (4, _)]) ⟨rfl, rfl, rfl, trivial⟩ (by
        exact OpOK.eq (r_fld fld28_1 rfl))
      ), (fun _ _ _ _ _ _ h => h), (FreeR.no _), ?_⟩
  refine ⟨_, false, (fun σ ι w1 hg hd hon => by
      have hN := hN.ofGr ((Gr.refl _).drew.trans hg)
      have hB2 := hB2.gr ((Gr.refl _).drew.trans hg)
      have hB3 := hB3.gr ((Gr.refl _).drew.trans hg)
      have hB4 := hB4.gr ((Gr.refl _).drew.trans hg)
      have f18 := hd 18 (by decide) _ rfl
      have f17 := hd 17 (by decide) _ rfl
      have e18 : σ 18 = _ := f18.1 hon
      have e17 : σ 17 = _ := f17.1 trivial
      have hgd : σ 17 = .bool false := hon
      have hgb := (f17.1 trivial : σ 17 = _).symm.trans hgd
      simp only [Value.bool.injEq] at hgb
      try simp only [decide_eq_true_eq, decide_eq_false_iff_not, Bool.or_eq_true, Bool.and_eq_true, Bool.or_eq_false_iff, Bool.and_eq_false_iff, Bool.not_eq_true', Bool.not_eq_false', Int.not_lt, Int.not_le, ne_eq, Decidable.not_not] at hgb
      exact OpOK.sub (r := [(23, _), (2, _), (3, _), (4, _)]) ⟨congrArg some e18, rfl, rfl, rfl, trivial⟩ (by
        exact OpOK.eq (r_load sc3 rfl (hB3.cell rfl)))
      ), (fun _ _ _ _ _ _ h => h), (FreeR.no _), ?_⟩
  refine ⟨_, false, (fun σ ι w1 hg hd hon => by
      have f17 := hd 17 (by decide) _ rfl
      have e17 : σ 17 = _ := f17.1 trivial
      have hgd : σ 17 = .bool false := hon
      have hgb := (f17.1 trivial : σ 17 = _).symm.trans hgd
      simp only [Value.bool.injEq] at hgb
      try simp only [decide_eq_true_eq, decide_eq_false_iff_not, Bool.or_eq_true, Bool.and_eq_true, Bool.or_eq_false_iff, Bool.and_eq_false_iff, Bool.not_eq_true', Bool.not_eq_false', Int.not_lt, Int.not_le, ne_eq, Decidable.not_not] at hgb
      exact OpOK.sub (r := [(2, _), (3, _), (4, _)]) ⟨rfl, rfl, rfl, trivial⟩ (by
        exact OpOK.eq (r_fld fld26_2 rfl))
      ), (fun _ _ _ _ _ _ h => h), (FreeR.no _), ?_⟩
  refine ⟨_, false, (fun σ ι w1 hg hd hon => by
      have hN := hN.ofGr ((Gr.refl _).drew.trans hg)
      have hB2 := hB2.gr ((Gr.refl _).drew.trans hg)
      have hB3 := hB3.gr ((Gr.refl _).drew.trans hg)
      have hB4 := hB4.gr ((Gr.refl _).drew.trans hg)
      have f20 := hd 20 (by decide) _ rfl
      have f17 := hd 17 (by decide) _ rfl
      have e20 : σ 20 = _ := f20.1 hon
      have e17 : σ 17 = _ := f17.1 trivial
      have hgd : σ 17 = .bool false := hon
      have hgb := (f17.1 trivial : σ 17 = _).symm.trans hgd
      simp only [Value.bool.injEq] at hgb
      try simp only [decide_eq_true_eq, decide_eq_false_iff_not, Bool.or_eq_true, Bool.and_eq_true, Bool.or_eq_false_iff, Bool.and_eq_false_iff, Bool.not_eq_true', Bool.not_eq_false', Int.not_lt, Int.not_le, ne_eq, Decidable.not_not] at hgb
      exact OpOK.sub (r := [(25, _), (2, _), (3, _), (4, _)]) ⟨congrArg some e20, rfl, rfl, rfl, trivial⟩ (by
        exact OpOK.eq (r_load sc3 rfl (hB2.cell rfl)))
      ), (fun _ _ _ _ _ _ h => h), (FreeR.no _), ?_⟩
  refine ⟨_, false, (fun σ ι w1 hg hd hon => by
      have f17 := hd 17 (by decide) _ rfl
      have e17 : σ 17 = _ := f17.1 trivial
      have hgd : σ 17 = .bool false := hon
      have hgb := (f17.1 trivial : σ 17 = _).symm.trans hgd
      simp only [Value.bool.injEq] at hgb
      try simp only [decide_eq_true_eq, decide_eq_false_iff_not, Bool.or_eq_true, Bool.and_eq_true, Bool.or_eq_false_iff, Bool.and_eq_false_iff, Bool.not_eq_true', Bool.not_eq_false', Int.not_lt, Int.not_le, ne_eq, Decidable.not_not] at hgb
      exact OpOK.sub (r := [(2, _), (3, _), (4, _)]) ⟨rfl, rfl, rfl, trivial⟩ (by
        exact OpOK.eq (r_fld fld26_1 rfl))
      ), (fun _ _ _ _ _ _ h => h), (FreeR.no _), ?_⟩
  refine ⟨_, false, (fun σ ι w1 hg hd hon => by
      have hN := hN.ofGr ((Gr.refl _).drew.trans hg)
      have hB2 := hB2.gr ((Gr.refl _).drew.trans hg)
      have hB3 := hB3.gr ((Gr.refl _).drew.trans hg)
      have hB4 := hB4.gr ((Gr.refl _).drew.trans hg)
      have f22 := hd 22 (by decide) _ rfl
      have f17 := hd 17 (by decide) _ rfl
      have e22 : σ 22 = _ := f22.1 hon
      have e17 : σ 17 = _ := f17.1 trivial
      have hgd : σ 17 = .bool false := hon
      have hgb := (f17.1 trivial : σ 17 = _).symm.trans hgd
      simp only [Value.bool.injEq] at hgb
      try simp only [decide_eq_true_eq, decide_eq_false_iff_not, Bool.or_eq_true, Bool.and_eq_true, Bool.or_eq_false_iff, Bool.and_eq_false_iff, Bool.not_eq_true', Bool.not_eq_false', Int.not_lt, Int.not_le, ne_eq, Decidable.not_not] at hgb
      exact OpOK.sub (r := [(27, _), (2, _), (3, _), (4, _)]) ⟨congrArg some e22, rfl, rfl, rfl, trivial⟩ (by
        exact OpOK.eq (r_load sc24 rfl (hB2.cell rfl)))
      ), (fun _ _ _ _ _ _ h => h), (FreeR.no _), ?_⟩
  refine ⟨_, false, (fun σ ι w1 hg hd hon => by
      have f23 := hd 23 (by decide) _ rfl
      have f17 := hd 17 (by decide) _ rfl
      have e23 : σ 23 = _ := f23.1 hon
      have e17 : σ 17 = _ := f17.1 trivial
      have hgd : σ 17 = .bool false := hon
      have hgb := (f17.1 trivial : σ 17 = _).symm.trans hgd
      simp only [Value.bool.injEq] at hgb
      try simp only [decide_eq_true_eq, decide_eq_false_iff_not, Bool.or_eq_true, Bool.and_eq_true, Bool.or_eq_false_iff, Bool.and_eq_false_iff, Bool.not_eq_true', Bool.not_eq_false', Int.not_lt, Int.not_le, ne_eq, Decidable.not_not] at hgb
      exact OpOK.sub (r := [(28, _), (2, _), (3, _), (4, _)]) ⟨congrArg some e23, rfl, rfl, rfl, trivial⟩ (by
        exact OpOK.eq (r_len Try.underlying24 rfl))
      ), (fun _ _ _ _ _ _ h => h), (FreeR.no _), ?_⟩
  refine ⟨_, false, (fun σ ι w1 hg hd hon => by
      have f21 := hd 21 (by decide) _ rfl
      have f24 := hd 24 (by decide) _ rfl
      have f17 := hd 17 (by decide) _ rfl
      have e21 : σ 21 = _ := f21.1 hon
      have e24 : σ 24 = _ := f24.1 hon
      have e17 : σ 17 = _ := f17.1 trivial
      have hgd : σ 17 = .bool false := hon
      have hgb := (f17.1 trivial : σ 17 = _).symm.trans hgd
      simp only [Value.bool.injEq] at hgb
      try simp only [decide_eq_true_eq, decide_eq_false_iff_not, Bool.or_eq_true, Bool.and_eq_true, Bool.or_eq_false_iff, Bool.and_eq_false_iff, Bool.not_eq_true', Bool.not_eq_false', Int.not_lt, Int.not_le, ne_eq, Decidable.not_not] at hgb
      exact OpOK.sub (r := [(26, _), (29, _), (2, _), (3, _), (4, _)]) ⟨congrArg some e21, congrArg some e24, rfl, rfl, rfl, trivial⟩ (by
        first | exact OpOK.eq (r_addk rfl rfl (by simp only [InK]; omega)) | exact OpOK.eq (r_add rfl rfl))
      ), (fun _ _ _ _ _ _ h => h), (FreeR.no _), ?_⟩
  refine ⟨_, false, (fun σ ι w1 hg hd hon => by
      have f19 := hd 19 (by decide) _ rfl
      have f25 := hd 25 (by decide) _ rfl
      have f17 := hd 17 (by decide) _ rfl
      have e19 : σ 19 = _ := f19.1 hon
      have e25 : σ 25 = _ := f25.1 hon
      have e17 : σ 17 = _ := f17.1 trivial
      have hgd : σ 17 = .bool false := hon
      have hgb := (f17.1 trivial : σ 17 = _).symm.trans hgd
      simp only [Value.bool.injEq] at hgb
      try simp only [decide_eq_true_eq, decide_eq_false_iff_not, Bool.or_eq_true, Bool.and_eq_true, Bool.or_eq_false_iff, Bool.and_eq_false_iff, Bool.not_eq_true', Bool.not_eq_false', Int.not_lt, Int.not_le, ne_eq, Decidable.not_not] at hgb
      exact OpOK.sub (r := [(24, _), (30, _), (2, _), (3, _), (4, _)]) ⟨congrArg some e19, congrArg some e25, rfl, rfl, rfl, trivial⟩ (by
        exact OpOK.eq (r_gtr rfl rfl))
      ), (fun _ _ _ _ _ _ h => h), (FreeR.no _), ?_⟩
  refine ⟨_, false, (fun σ ι w1 hg hd hon => by
      have f17 := hd 17 (by decide) _ rfl
      have f26 := hd 26 (by decide) _ rfl
      have e17 : σ 17 = _ := f17.1 trivial
      have ec : σ 17 = _ := f17.1 trivial
      exact OpOK.id (by refine OpOK.or (dc := 22) (dy := 31) (kc := σ 17) (ky := σ 26) ?_ ?_ ec (fun hb => f26.1 (by show σ 17 = _; rw [ec]; exact congrArg Value.bool hb)) <;> rfl)
      ), (fun _ _ _ _ _ _ h => h), (FreeR.no _), ?_⟩
  refine ⟨_, false, (fun σ ι w1 hg hd hon => by
      have f27 := hd 27 (by decide) _ rfl
      have e27 : σ 27 = _ := f27.1 trivial
      exact OpOK.sub (r := [(32, _), (2, _), (3, _), (4, _)]) ⟨congrArg some e27, rfl, rfl, rfl, trivial⟩ (by
        exact OpOK.eq (r_move rfl))
      ), (fun _ _ _ _ _ _ h => h), (FreeR.no _), ?_⟩
  refine ⟨_, false, (fun σ ι w1 hg hd hon => by
      have f28 := hd 28 (by decide) _ rfl
      have e28 : σ 28 = _ := f28.1 trivial
      have hgd : σ 28 = .bool false := hon
      have hgb := (f28.1 trivial : σ 28 = _).symm.trans hgd
      simp only [Value.bool.injEq] at hgb
      try simp only [decide_eq_true_eq, decide_eq_false_iff_not, Bool.or_eq_true, Bool.and_eq_true, Bool.or_eq_false_iff, Bool.and_eq_false_iff, Bool.not_eq_true', Bool.not_eq_false', Int.not_lt, Int.not_le, ne_eq, Decidable.not_not] at hgb
      exact OpOK.sub (r := [(2, _), (3, _), (4, _)]) ⟨rfl, rfl, rfl, trivial⟩ (by
        exact OpOK.eq (r_fld fld28_2 rfl))
      ), (fun _ _ _ _ _ _ h => h), (FreeR.no _), ?_⟩
  refine ⟨_, false, (fun σ ι w1 hg hd hon => by
      have hN := hN.ofGr ((Gr.refl _).drew.trans hg)
      have hB2 := hB2.gr ((Gr.refl _).drew.trans hg)
      have hB3 := hB3.gr ((Gr.refl _).drew.trans hg)
      have hB4 := hB4.gr ((Gr.refl _).drew.trans hg)
      have f29 := hd 29 (by decide) _ rfl
      have f28 := hd 28 (by decide) _ rfl
      have e29 : σ 29 = _ := f29.1 hon
      have e28 : σ 28 = _ := f28.1 trivial
      have hgd : σ 28 = .bool false := hon
      have hgb := (f28.1 trivial : σ 28 = _).symm.trans hgd
      simp only [Value.bool.injEq] at hgb
      try simp only [decide_eq_true_eq, decide_eq_false_iff_not, Bool.or_eq_true, Bool.and_eq_true, Bool.or_eq_false_iff, Bool.and_eq_false_iff, Bool.not_eq_true', Bool.not_eq_false', Int.not_lt, Int.not_le, ne_eq, Decidable.not_not] at hgb
      exact OpOK.sub (r := [(34, _), (2, _), (3, _), (4, _)]) ⟨congrArg some e29, rfl, rfl, rfl, trivial⟩ (by
        exact OpOK.eq (r_load sc23 rfl (hB3.cell rfl)))
      ), (fun _ _ _ _ _ _ h => h), (FreeR.no _), ?_⟩
  refine ⟨_, false, (fun σ ι w1 hg hd hon => by
      have f30 := hd 30 (by decide) _ rfl
      have f28 := hd 28 (by decide) _ rfl
      have e30 : σ 30 = _ := f30.1 hon
      have e28 : σ 28 = _ := f28.1 trivial
      have hgd : σ 28 = .bool false := hon
      have hgb := (f28.1 trivial : σ 28 = _).symm.trans hgd
      simp only [Value.bool.injEq] at hgb
      try simp only [decide_eq_true_eq, decide_eq_false_iff_not, Bool.or_eq_true, Bool.and_eq_true, Bool.or_eq_false_iff, Bool.and_eq_false_iff, Bool.not_eq_true', Bool.not_eq_false', Int.not_lt, Int.not_le, ne_eq, Decidable.not_not] at hgb
      exact OpOK.sub (r := [(35, _), (2, _), (3, _), (4, _)]) ⟨congrArg some e30, rfl, rfl, rfl, trivial⟩ (by
        exact OpOK.eq (r_len Try.underlying23 rfl))
      ), (fun _ _ _ _ _ _ h => h), (FreeR.no _), ?_⟩
  refine ⟨_, false, (fun σ ι w1 hg hd hon => by
      have f31 := hd 31 (by decide) _ rfl
      have f28 := hd 28 (by decide) _ rfl
      have e31 : σ 31 = _ := f31.1 hon
      have e28 : σ 28 = _ := f28.1 trivial
      have hgd : σ 28 = .bool false := hon
      have hgb := (f28.1 trivial : σ 28 = _).symm.trans hgd
      simp only [Value.bool.injEq] at hgb
      try simp only [decide_eq_true_eq, decide_eq_false_iff_not, Bool.or_eq_true, Bool.and_eq_true, Bool.or_eq_false_iff, Bool.and_eq_false_iff, Bool.not_eq_true', Bool.not_eq_false', Int.not_lt, Int.not_le, ne_eq, Decidable.not_not] at hgb
      exact OpOK.sub (r := [(36, _), (2, _), (3, _), (4, _)]) ⟨congrArg some e31, rfl, rfl, rfl, trivial⟩ (by
        exact OpOK.eq (r_gtr rfl rfl))
      ), (fun _ _ _ _ _ _ h => h), (FreeR.no _), ?_⟩
  refine ⟨_, false, (fun σ ι w1 hg hd hon => by
      have f28 := hd 28 (by decide) _ rfl
      have f32 := hd 32 (by decide) _ rfl
      have e28 : σ 28 = _ := f28.1 trivial
      have ec : σ 28 = _ := f28.1 trivial
      exact OpOK.id (by refine OpOK.or (dc := 33) (dy := 37) (kc := σ 28) (ky := σ 32) ?_ ?_ ec (fun hb => f32.1 (by show σ 28 = _; rw [ec]; exact congrArg Value.bool hb)) <;> rfl)
      ), (fun _ _ _ _ _ _ h => h), (FreeR.no _), ?_⟩
  refine ⟨_, false, (fun σ ι w1 hg hd hon => by
      have f33 := hd 33 (by decide) _ rfl
      have e33 : σ 33 = _ := f33.1 trivial
      exact OpOK.sub (r := [(38, _), (2, _), (3, _), (4, _)]) ⟨congrArg some e33, rfl, rfl, rfl, trivial⟩ (by
        exact OpOK.eq (r_move rfl))
      ), (fun _ _ _ _ _ _ h => h), (FreeR.no _), ?_⟩
  refine ⟨_, false, (fun σ ι w1 hg hd hon => by
      have f34 := hd 34 (by decide) _ rfl
      have e34 : σ 34 = _ := f34.1 trivial
      have hgd : σ 34 = .bool false := hon
      have hgb := (f34.1 trivial : σ 34 = _).symm.trans hgd
      simp only [Value.bool.injEq] at hgb
      try simp only [decide_eq_true_eq, decide_eq_false_iff_not, Bool.or_eq_true, Bool.and_eq_true, Bool.or_eq_false_iff, Bool.and_eq_false_iff, Bool.not_eq_true', Bool.not_eq_false', Int.not_lt, Int.not_le, ne_eq, Decidable.not_not] at hgb
      exact OpOK.sub (r := [(2, _), (3, _), (4, _)]) ⟨rfl, rfl, rfl, trivial⟩ (by
        exact OpOK.eq (r_fld fld28_0 rfl))
      ), (fun _ _ _ _ _ _ h => h), (FreeR.no _), ?_⟩
  refine ⟨_, false, (fun σ ι w1 hg hd hon => by
      have hN := hN.ofGr ((Gr.refl _).drew.trans hg)
      have hB2 := hB2.gr ((Gr.refl _).drew.trans hg)
      have hB3 := hB3.gr ((Gr.refl _).drew.trans hg)
      have hB4 := hB4.gr ((Gr.refl _).drew.trans hg)
      have f35 := hd 35 (by decide) _ rfl
      have f34 := hd 34 (by decide) _ rfl
      have e35 : σ 35 = _ := f35.1 hon
      have e34 : σ 34 = _ := f34.1 trivial
      have hgd : σ 34 = .bool false := hon
      have hgb := (f34.1 trivial : σ 34 = _).symm.trans hgd
      simp only [Value.bool.injEq] at hgb
      try simp only [decide_eq_true_eq, decide_eq_false_iff_not, Bool.or_eq_true, Bool.and_eq_true, Bool.or_eq_false_iff, Bool.and_eq_false_iff, Bool.not_eq_true', Bool.not_eq_false', Int.not_lt, Int.not_le, ne_eq, Decidable.not_not] at hgb
      exact OpOK.sub (r := [(40, _), (2, _), (3, _), (4, _)]) ⟨congrArg some e35, rfl, rfl, rfl, trivial⟩ (by
        exact OpOK.eq (r_load sc3 rfl (hB3.cell rfl)))
      ), (fun _ _ _ _ _ _ h => h), (FreeR.no _), ?_⟩
  refine ⟨_, false, (fun σ ι w1 hg hd hon => by
      have f36 := hd 36 (by decide) _ rfl
      have f34 := hd 34 (by decide) _ rfl
      have e36 : σ 36 = _ := f36.1 hon
      have e34 : σ 34 = _ := f34.1 trivial
      have hgd : σ 34 = .bool false := hon
      have hgb := (f34.1 trivial : σ 34 = _).symm.trans hgd
      simp only [Value.bool.injEq] at hgb
      try simp only [decide_eq_true_eq, decide_eq_false_iff_not, Bool.or_eq_true, Bool.and_eq_true, Bool.or_eq_false_iff, Bool.and_eq_false_iff, Bool.not_eq_true', Bool.not_eq_false', Int.not_lt, Int.not_le, ne_eq, Decidable.not_not] at hgb
      exact OpOK.sub (r := [(41, _), (2, _), (3, _), (4, _)]) ⟨congrArg some e36, rfl, rfl, rfl, trivial⟩ (by
        exact OpOK.eq (r_eql rfl rfl))
      ), (fun _ _ _ _ _ _ h => h), (FreeR.no _), ?_⟩
  refine ⟨_, false, (fun σ ι w1 hg hd hon => by
      have f37 := hd 37 (by decide) _ rfl
      have f34 := hd 34 (by decide) _ rfl
      have e37 : σ 37 = _ := f37.1 hon
      have e34 : σ 34 = _ := f34.1 trivial
      have hgd : σ 34 = .bool false := hon
      have hgb := (f34.1 trivial : σ 34 = _).symm.trans hgd
      simp only [Value.bool.injEq] at hgb
      try simp only [decide_eq_true_eq, decide_eq_false_iff_not, Bool.or_eq_true, Bool.and_eq_true, Bool.or_eq_false_iff, Bool.and_eq_false_iff, Bool.not_eq_true', Bool.not_eq_false', Int.not_lt, Int.not_le, ne_eq, Decidable.not_not] at hgb
      exact OpOK.sub (r := [(42, _), (2, _), (3, _), (4, _)]) ⟨congrArg some e37, rfl, rfl, rfl, trivial⟩ (by
        exact OpOK.eq (r_move rfl))
      ), (fun _ _ _ _ _ _ h => h), (FreeR.no _), ?_⟩
  refine ⟨_, false, (fun σ ι w1 hg hd hon => by
      have f38 := hd 38 (by decide) _ rfl
      have hgd : σ 38 = .bool true := hon
      exact OpOK.sub (r := [(2, _), (3, _), (4, _)]) ⟨rfl, rfl, rfl, trivial⟩ (by
        exact OpOK.eq (r_fld fld28_2 rfl))
      ), (fun _ _ _ _ _ _ h => h), (FreeR.no _), ?_⟩
  refine ⟨_, false, (fun σ ι w1 hg hd hon => by
      have hN := hN.ofGr ((Gr.refl _).drew.trans hg)
      have hB2 := hB2.gr ((Gr.refl _).drew.trans hg)
      have hB3 := hB3.gr ((Gr.refl _).drew.trans hg)
      have hB4 := hB4.gr ((Gr.refl _).drew.trans hg)
      have f39 := hd 39 (by decide) _ rfl
      have f38 := hd 38 (by decide) _ rfl
      have e39 : σ 39 = _ := f39.1 hon
      have hgd : σ 38 = .bool true := hon
      exact OpOK.sub (r := [(44, _), (2, _), (3, _), (4, _)]) ⟨congrArg some e39, rfl, rfl, rfl, trivial⟩ (by
        exact OpOK.eq (r_load sc23 rfl (hB3.cell rfl)))
      ), (fun _ _ _ _ _ _ h => h), (FreeR.no _), ?_⟩
  refine ⟨_, false, (fun σ ι w1 hg hd hon => by
      have f40 := hd 40 (by decide) _ rfl
      have f38 := hd 38 (by decide) _ rfl
      have e40 : σ 40 = _ := f40.1 hon
      have hgd : σ 38 = .bool true := hon
      exact OpOK.sub (r := [(45, _), (2, _), (3, _), (4, _)]) ⟨congrArg some e40, rfl, rfl, rfl, trivial⟩ (by
        exact OpOK.eq (r_len Try.underlying23 rfl))
      ), (fun _ _ _ _ _ _ h => h), (FreeR.no _), ?_⟩
  refine ⟨_, false, (fun σ ι w1 hg hd hon => by
      have f41 := hd 41 (by decide) _ rfl
      have f38 := hd 38 (by decide) _ rfl
      have e41 : σ 41 = _ := f41.1 hon
      have hgd : σ 38 = .bool true := hon
      exact OpOK.sub (r := [(46, _), (2, _), (3, _), (4, _)]) ⟨congrArg some e41, rfl, rfl, rfl, trivial⟩ (by
        exact OpOK.eq (r_gtr rfl rfl))
      ), (fun _ _ _ _ _ _ h => h), (FreeR.no _), ?_⟩
  refine ⟨_, false, (fun σ ι w1 hg hd hon => by
      have f38 := hd 38 (by decide) _ rfl
      have f42 := hd 42 (by decide) _ rfl
      have f34 := hd 34 (by decide) _ rfl
      have e38 : σ 38 = _ := f38.1 hon
      have e34 : σ 34 = _ := f34.1 trivial
      have hgd : σ 34 = .bool false := hon
      have hgb := (f34.1 trivial : σ 34 = _).symm.trans hgd
      simp only [Value.bool.injEq] at hgb
      try simp only [decide_eq_true_eq, decide_eq_false_iff_not, Bool.or_eq_true, Bool.and_eq_true, Bool.or_eq_false_iff, Bool.and_eq_false_iff, Bool.not_eq_true', Bool.not_eq_false', Int.not_lt, Int.not_le, ne_eq, Decidable.not_not] at hgb
      have ec : σ 38 = _ := f38.1 hon
      exact OpOK.id (by refine OpOK.and (dc := 43) (dy := 47) (kc := σ 38) (ky := σ 42) ?_ ?_ ec (fun hb => f42.1 (by show σ 38 = _; rw [ec]; exact congrArg Value.bool hb)) <;> rfl)
      ), (fun _ _ _ _ _ _ h => h), (FreeR.no _), ?_⟩
  refine ⟨_, false, (fun σ ι w1 hg hd hon => by
      have f34 := hd 34 (by decide) _ rfl
      have f43 := hd 43 (by decide) _ rfl
      have e34 : σ 34 = _ := f34.1 trivial
      have ec : σ 34 = _ := f34.1 trivial
      exact OpOK.id (by refine OpOK.or (dc := 39) (dy := 48) (kc := σ 34) (ky := σ 43) ?_ ?_ ec (fun hb => f43.1 (by show σ 34 = _; rw [ec]; exact congrArg Value.bool hb)) <;> rfl)
      ), (fun _ _ _ _ _ _ h => h), (FreeR.no _), ?_⟩
  intro σ ι a4 w5 hgw5 H4 hd hap
  skip
  have hN0 := hN
  have hN := hN.ofGr ((Gr.refl _).drew.trans hgw5)
  replace hB2 := hB2.gr ((Gr.refl _).drew.trans hgw5)
  replace hB3 := hB3.gr ((Gr.refl _).drew.trans hgw5)
  replace hB4 := hB4.gr ((Gr.refl _).drew.trans hgw5)
  have e44 : σ 44 = _ := (hd 44 (by decide) _ rfl).1 trivial
  replace H4 := H4.sub (r := [(49, _), (2, _), (3, _), (4, _)]) ⟨congrArg some e44, rfl, rfl, rfl, trivial⟩
  clear hd
  clear hap
  refine wl_end ?_
  refine th_n ?_
  first | refine w_if H4 rfl (fun hc49 => ?_) (fun hc49 => ?_) | refine w_cond H4 rfl (fun hc49 => ?_) (fun hc49 => ?_)
  ·
    try simp only [decide_eq_true_eq, decide_eq_false_iff_not, Bool.or_eq_true, Bool.and_eq_true, Bool.or_eq_false_iff, Bool.and_eq_false_iff, Bool.not_eq_true', Bool.not_eq_false', Int.not_lt, Int.not_le, ne_eq, Decidable.not_not] at hc49
    refine wpIn_seq ?_
    refine w_reg ?_
    refine wl1 H4 (r_build (v := .agg #[.int .u64 0, .slice none 0 0, .int .i64 0, .slice none 0 0, .int .i64 0, .int .i64 500]) rfl (fun w => by kernel_rfl)) rfl rfl rfl rfl fun a5 H5 => ?_
    clear H4 a4
    refine s_storeA (vs := [_, _, _, _, _, _]) H5 sz48 (by simp) (by simp [Value.oneCell']) rfl rfl hN hB4 (by simp) hgeb4 fun w6 hN hB4 ew6 H6 => ?_
    clear H5
    replace hB2 := hB2.otherE ew6 (by omega)
    replace hB3 := hB3.otherE ew6 (by omega)
    simp only [Nat.zero_add, Nat.add_zero, Nat.reduceAdd, Nat.reduceMul, List.set_cons_zero, List.set_cons_succ, spliceL] at hB4
    clear ew6
    refine wl_end ?_
    refine th_n ?_
    refine wpIn_ret ?_
    refine th_r ?_
    refine fin_r H6 (resC rfl H6 rfl hB4 ag48) ?_
    first
      | (have hno : ¬ lacc x p := by unfold lacc; omega
         refine ⟨I, hN, none, 0, none, 0, ?_, ?_⟩
         · rw [show lrec x p = lk0 from if_neg hno, show lrecE x p = 500 from if_neg hno]; rfl
         · rw [show lrec x p = lk0 from if_neg hno]; exact lkAt0 _)
      | (rw [show lrec x p = y from (if_pos hacc : lrec x p = lrec2 (lrec1 x p) p).trans (by rw [hy, hx1]), show lrecE x p = 0 from if_pos hacc]
         exact ⟨I, hN, A7, c7, A8, c8, rfl, hLy⟩)
  ·
    try simp only [decide_eq_true_eq, decide_eq_false_iff_not, Bool.or_eq_true, Bool.and_eq_true, Bool.or_eq_false_iff, Bool.and_eq_false_iff, Bool.not_eq_true', Bool.not_eq_false', Int.not_lt, Int.not_le, ne_eq, Decidable.not_not] at hc49
    have hacc : lacc x p := by unfold lacc; omega
    refine wpIn_skip ?_
    refine th_n ?_
    refine wpIn_seq ?_
    refine wpIn_seq ?_
    refine w_reg ?_
    refine wl1 H4 (r_fld fld28_1 rfl) rfl rfl rfl rfl fun a5 H7 => ?_
    clear H4 a4
    refine wl1 H7 (r_load sc3 rfl (hB3.cell rfl)) rfl rfl rfl rfl fun a6 H8 => ?_
    clear H7 a5
    refine wl1 H8 (r_fld fld26_2 rfl) rfl rfl rfl rfl fun a7 H9 => ?_
    clear H8 a6
    refine wl1 H9 (r_load sc3 rfl (hB2.cell rfl)) rfl rfl rfl rfl fun a8 H10 => ?_
    clear H9 a7
    refine wl1 H10 (r_gtr rfl rfl) rfl rfl rfl rfl fun a9 H11 => ?_
    clear H10 a8
    refine wl_end ?_
    refine th_n ?_
    first | refine w_if H11 rfl (fun hc55 => ?_) (fun hc55 => ?_) | refine w_cond H11 rfl (fun hc55 => ?_) (fun hc55 => ?_)
    ·
      try simp only [decide_eq_true_eq, decide_eq_false_iff_not, Bool.or_eq_true, Bool.and_eq_true, Bool.or_eq_false_iff, Bool.and_eq_false_iff, Bool.not_eq_true', Bool.not_eq_false', Int.not_lt, Int.not_le, ne_eq, Decidable.not_not] at hc55
      obtain ⟨k, hk⟩ : ∃ k : Nat, p.ack - x.base = (k : Int) := ⟨(p.ack - x.base).toNat, by unfold lacc at hacc; omega⟩
      have hkx : k ≤ x.out.length := by unfold lacc at hacc; omega
      refine wpIn_seq ?_
      refine w_reg ?_
      obtain ⟨B9, hBw⟩ : ∃ B, B = (w5).heap.size := ⟨_, rfl⟩
      have hlt1b := hB2.lt
      have hlt2b := hB3.lt
      have hlt3b := hB4.lt
      have hwB : w.heap.size ≤ B9 := by rw [hBw]; exact hN.gr.size
      have hszB : B9 ≤ (w5).heap.size := Nat.le_of_eq hBw
      refine s_lit1 (cs := []) H11 Try.underlying24 sz23 zv23 rfl rfl rfl (by simp [Value.oneCell']) rfl hN fun w7 l56 K7 hKl56 hlel56 hN nw7 hgel56 a10 H12 => ?_
      clear H11 a9
      replace hL := hL.up nw7.le
      replace hP := hP.up nw7.le
      replace hB2 := hB2.next nw7
      replace hB3 := hB3.next nw7
      replace hB4 := hB4.next nw7
      replace hszB := Nat.le_trans hszB nw7.gr.size
      refine wl1 H12 (r_fld fld26_1 rfl) rfl rfl rfl rfl fun a11 H13 => ?_
      clear H12 a10
      refine wl1 H13 (r_load sc24 rfl (hB2.cell rfl)) rfl rfl rfl rfl fun a12 H14 => ?_
      clear H13 a11
      refine wl1 H14 (r_fld fld28_1 rfl) rfl rfl rfl rfl fun a13 H15 => ?_
      clear H14 a12
      refine wl1 H15 (r_load sc3 rfl (hB3.cell rfl)) rfl rfl rfl rfl fun a14 H16 => ?_
      clear H15 a13
      refine wl1 H16 (r_fld fld26_2 rfl) rfl rfl rfl rfl fun a15 H17 => ?_
      clear H16 a14
      refine wl1 H17 (r_load sc3 rfl (hB2.cell rfl)) rfl rfl rfl rfl fun a16 H18 => ?_
      clear H17 a15
      first | refine wl1 H18 (r_subk rfl rfl (by simp only [InK]; omega)) rfl rfl rfl rfl fun a17 H19 => ?_ | refine wl1 H18 (r_sub rfl rfl) rfl rfl rfl rfl fun a17 H19 => ?_
      clear H18 a16
      rw [hk] at H19
      refine wl1 H19 (r_from (lo := k) Try.underlying24 sz23 rfl rfl rfl (by omega) (by omega)) rfl rfl rfl rfl fun a18 H20 => ?_
      clear H19 a17
      refine s_app (d := kB) (B := B9) H20 rfl rfl Try.underlying24 nf23 rfl (by decide) (by decide) rfl hN (.inr ⟨_, rfl, Els.nil _ _ _⟩) (hL.oe.off (lo := k) hL.oc) (by simp) hwB hszB (by simp; omega) fun vw8 w8 hO hOO hOO2 kw8 hN a19 H21 => ?_
      clear H20 a18
      replace hB2 := hB2.keep kw8 (by omega)
      replace hB3 := hB3.keep kw8 (by omega)
      replace hB4 := hB4.keep kw8 (by omega)
      replace hszB := Nat.le_trans hszB kw8.size
      rw [List.nil_append] at hO
      obtain ⟨Kz8, Az, cAz, hN, hleKz8, hsmKz8, rfl, hcAz, hEz⟩ := hO.freeze hN hwB
      replace hB2 := hB2.same (hsmKz8 _ (by omega))
      replace hB3 := hB3.same (hsmKz8 _ (by omega))
      replace hB4 := hB4.same (hsmKz8 _ (by omega))
      replace hL := hL.up hleKz8
      replace hP := hP.up hleKz8
      refine wl1 H21 (r_fld fld26_1 rfl) rfl rfl rfl rfl fun a20 H22 => ?_
      clear H21 a19
      refine s_store H22 sz24 rfl rfl rfl hN hB2 (by simp) hgeb2 fun w10 hN hB2 ew10 H23 => ?_
      clear H22
      replace hB3 := hB3.otherE ew10 (by omega)
      replace hB4 := hB4.otherE ew10 (by omega)
      replace hszB := sz_setB ew10 hszB
      simp only [Nat.zero_add, Nat.add_zero, Nat.reduceAdd, Nat.reduceMul, List.set_cons_zero, List.set_cons_succ, spliceL] at hB2
      clear ew10
      refine wl_end ?_
      refine th_n ?_
      refine w_reg ?_
      refine wl1 H23 (r_fld fld28_1 rfl) rfl rfl rfl rfl fun a21 H24 => ?_
      clear H23 a20
      refine wl1 H24 (r_load sc3 rfl (hB3.cell rfl)) rfl rfl rfl rfl fun a22 H25 => ?_
      clear H24 a21
      refine wl1 H25 (r_fld fld26_2 rfl) rfl rfl rfl rfl fun a23 H26 => ?_
      clear H25 a22
      refine s_store H26 sz3 rfl rfl rfl hN hB2 (by simp) hgeb2 fun w11 hN hB2 ew11 H27 => ?_
      clear H26
      replace hB3 := hB3.otherE ew11 (by omega)
      replace hB4 := hB4.otherE ew11 (by omega)
      replace hszB := sz_setB ew11 hszB
      simp only [Nat.zero_add, Nat.add_zero, Nat.reduceAdd, Nat.reduceMul, List.set_cons_zero, List.set_cons_succ, spliceL] at hB2
      clear ew11
      obtain ⟨x1, A5, c5, hx1, hin1, hrv1, hB2, hL1⟩ : ∃ x1 A5 c5, x1 = lrec1 x p ∧ x1.inn = x.inn ∧ x1.rcv = x.rcv ∧ Box Kz8 w11 b2 [.int .u64 x1.key, .slice A5 x1.out.length c5, .int .i64 x1.base, .slice A2 x1.inn.length c2, .int .i64 x1.rcv] 26 ∧ LkAt Kz8 x1 A5 c5 A2 c2 := by
        have hlr : lrec1 x p = { x with out := x.out.drop k, base := p.ack } := by unfold lrec1; rw [if_pos (by omega), show (p.ack - x.base).toNat = k from by omega]
        exact ⟨{ x with out := x.out.drop k, base := p.ack }, Az, cAz, hlr.symm, rfl, rfl, hB2, ⟨hL.kk, hP.ka, hL.kr, hcAz, hEz, hL.ic, hL.ie⟩⟩
      have hin2 : x1.inn.length = x.inn.length := by rw [hin1]
      refine wl_end ?_
      refine th_n ?_
      refine wpIn_seq ?_
      refine wpIn_seq ?_
      refine w_reg ?_
      refine wl1 H27 (r_fld fld28_0 rfl) rfl rfl rfl rfl fun a24 H28 => ?_
      clear H27 a23
      refine wl1 H28 (r_load sc3 rfl (hB3.cell rfl)) rfl rfl rfl rfl fun a25 H29 => ?_
      clear H28 a24
      refine wl1 H29 (r_fld fld26_4 rfl) rfl rfl rfl rfl fun a26 H30 => ?_
      clear H29 a25
      refine wl1 H30 (r_load sc3 rfl (hB2.cell rfl)) rfl rfl rfl rfl fun a27 H31 => ?_
      clear H30 a26
      refine wl1 H31 (r_eql rfl rfl) rfl rfl rfl rfl fun a28 H32 => ?_
      clear H31 a27
      refine wl1 H32 (r_move rfl) rfl rfl rfl rfl fun a29 H33 => ?_
      clear H32 a28
      refine wl_split (t := 75) H33 rfl (fun hg6_5 H34 => ?_) (fun hg6_5 H34 => ?_)
      ·
        clear H33
        try simp only [decide_eq_true_eq, decide_eq_false_iff_not, Bool.or_eq_true, Bool.and_eq_true, Bool.or_eq_false_iff, Bool.and_eq_false_iff, Bool.not_eq_true', Bool.not_eq_false', Int.not_lt, Int.not_le, ne_eq, Decidable.not_not] at hg6_5
        refine wl_on (d := 75) H34 rfl rfl rfl ?_
        refine wl1 H34 (r_fld fld26_3 rfl) rfl rfl rfl rfl fun a30 H35 => ?_
        clear H34 a29
        refine wl_on (d := 75) H35 rfl rfl rfl ?_
        refine wl1 H35 (r_load sc24 rfl (hB2.cell rfl)) rfl rfl rfl rfl fun a31 H36 => ?_
        clear H35 a30
        refine wl_on (d := 75) H36 rfl rfl rfl ?_
        refine wl1 H36 (r_len Try.underlying24 rfl) rfl rfl rfl rfl fun a32 H37 => ?_
        clear H36 a31
        refine wl_on (d := 75) H37 rfl rfl rfl ?_
        refine wl1 H37 (r_lss rfl rfl) rfl rfl rfl rfl fun a33 H38 => ?_
        clear H37 a32
        refine wl1 H38 (r_pick_t rfl rfl) rfl rfl rfl rfl fun a34 H39 => ?_
        clear H38 a33
        refine wl1 H39 (r_move rfl) rfl rfl rfl rfl fun a35 H40 => ?_
        clear H39 a34
        refine wl_split (t := 81) H40 rfl (fun hg6_11 H41 => ?_) (fun hg6_11 H41 => ?_)
        ·
          clear H40
          try simp only [decide_eq_true_eq, decide_eq_false_iff_not, Bool.or_eq_true, Bool.and_eq_true, Bool.or_eq_false_iff, Bool.and_eq_false_iff, Bool.not_eq_true', Bool.not_eq_false', Int.not_lt, Int.not_le, ne_eq, Decidable.not_not] at hg6_11
          refine wl_on (d := 81) H41 rfl rfl rfl ?_
          refine wl1 H41 (r_fld fld26_4 rfl) rfl rfl rfl rfl fun a36 H42 => ?_
          clear H41 a35
          refine wl_on (d := 81) H42 rfl rfl rfl ?_
          refine wl1 H42 (r_load sc3 rfl (hB2.cell rfl)) rfl rfl rfl rfl fun a37 H43 => ?_
          clear H42 a36
          refine wl_on (d := 81) H43 rfl rfl rfl ?_
          refine wl1 H43 (r_lss rfl rfl) rfl rfl rfl rfl fun a38 H44 => ?_
          clear H43 a37
          refine wl1 H44 (r_pick_t rfl rfl) rfl rfl rfl rfl fun a39 H45 => ?_
          clear H44 a38
          refine wl_end ?_
          refine th_n ?_
          first | refine w_if H45 rfl (fun hc85 => ?_) (fun hc85 => ?_) | refine w_cond H45 rfl (fun hc85 => ?_) (fun hc85 => ?_)
          ·
            try simp only [decide_eq_true_eq, decide_eq_false_iff_not, Bool.or_eq_true, Bool.and_eq_true, Bool.or_eq_false_iff, Bool.and_eq_false_iff, Bool.not_eq_true', Bool.not_eq_false', Int.not_lt, Int.not_le, ne_eq, Decidable.not_not] at hc85
            refine wpIn_seq ?_
            refine w_reg ?_
            refine wl1 H45 (r_fld fld26_3 rfl) rfl rfl rfl rfl fun a40 H46 => ?_
            clear H45 a39
            refine wl1 H46 (r_load sc24 rfl (hB2.cell rfl)) rfl rfl rfl rfl fun a41 H47 => ?_
            clear H46 a40
            refine wl1 H47 (r_fld fld28_2 rfl) rfl rfl rfl rfl fun a42 H48 => ?_
            clear H47 a41
            refine wl1 H48 (r_load sc23 rfl (hB3.cell rfl)) rfl rfl rfl rfl fun a43 H49 => ?_
            clear H48 a42
            refine wlc  H49 rfl rfl hb43 rfl (rwith50 hN.sat hL1.ie (by omega) hP.de hP.dc) fun v w12 hR a44 H50 => ?_
            clear H49 a43
            obtain ⟨J12, nw12, ⟨A9, c9, rfl, hc9, hE9⟩⟩ := hR
            replace hL := hL.up nw12.le
            replace hP := hP.up nw12.le
            replace hEz := hEz.up nw12.le
            replace hL1 := hL1.up nw12.le
            replace hB2 := hB2.next nw12
            replace hB3 := hB3.next nw12
            replace hB4 := hB4.next nw12
            replace hszB := Nat.le_trans hszB nw12.gr.size
            have hN := hN.trans nw12
            refine wl1 H50 (r_fld fld26_3 rfl) rfl rfl rfl rfl fun a45 H51 => ?_
            clear H50 a44
            refine s_store H51 sz24 rfl rfl rfl hN hB2 (by simp) hgeb2 fun w13 hN hB2 ew13 H52 => ?_
            clear H51
            replace hB3 := hB3.otherE ew13 (by omega)
            replace hB4 := hB4.otherE ew13 (by omega)
            replace hszB := sz_setB ew13 hszB
            simp only [Nat.zero_add, Nat.add_zero, Nat.reduceAdd, Nat.reduceMul, List.set_cons_zero, List.set_cons_succ, spliceL] at hB2
            clear ew13
            refine wl_end ?_
            refine th_n ?_
            refine w_reg ?_
            refine wl1 H52 (r_fld fld26_4 rfl) rfl rfl rfl rfl fun a46 H53 => ?_
            clear H52 a45
            refine wl1 H53 (r_load sc3 rfl (hB2.cell rfl)) rfl rfl rfl rfl fun a47 H54 => ?_
            clear H53 a46
            first | refine wl1 H54 (r_addk rfl rfl (by simp only [InK]; omega)) rfl rfl rfl rfl fun a48 H55 => ?_ | refine wl1 H54 (r_add rfl rfl) rfl rfl rfl rfl fun a48 H55 => ?_
            clear H54 a47
            refine wl1 H55 (r_fld fld26_4 rfl) rfl rfl rfl rfl fun a49 H56 => ?_
            clear H55 a48
            refine s_store H56 sz3 rfl rfl rfl hN hB2 (by simp) hgeb2 fun w14 hN hB2 ew14 H57 => ?_
            clear H56
            replace hB3 := hB3.otherE ew14 (by omega)
            replace hB4 := hB4.otherE ew14 (by omega)
            replace hszB := sz_setB ew14 hszB
            simp only [Nat.zero_add, Nat.add_zero, Nat.reduceAdd, Nat.reduceMul, List.set_cons_zero, List.set_cons_succ, spliceL] at hB2
            clear ew14
            refine wl_end ?_
            refine th_n ?_
            refine wpIn_seq ?_
            refine w_reg ?_
            obtain ⟨y, A7, c7, A8, c8, hy, hB2, hLy⟩ : ∃ y A7 c7 A8 c8, y = lrec2 x1 p ∧ Box J12 w14 b2 [.int .u64 y.key, .slice A7 y.out.length c7, .int .i64 y.base, .slice A8 y.inn.length c8, .int .i64 y.rcv] 26 ∧ LkAt J12 y A7 c7 A8 c8 := by
              first
                | exact ⟨x1, A5, c5, A2, c2, by unfold lrec2; rw [if_neg (by omega)], hB2, hL1⟩
                | exact ⟨{ x1 with inn := x1.inn ++ [p.data], rcv := x1.rcv + 1 }, A5, c5, A9, c9, by unfold lrec2; rw [if_pos (by omega)], hB2, ⟨hL1.kk, hL1.kb, by show InK .i64 (x1.rcv + 1); simp only [InK]; omega, hL1.oc, hL1.oe, hc9, hE9⟩⟩
            refine wl1 H57 (r_loadA (cs := [_, _, _, _, _]) ag26 rfl hB2.agg) rfl rfl rfl rfl fun a50 H58 => ?_
            clear H57 a49
            refine wl1 H58 (r_build (v := .agg #[.int .u64 y.key, .slice A7 y.out.length c7, .int .i64 y.base, .slice A8 y.inn.length c8, .int .i64 y.rcv, .int .i64 0]) rfl (fun w => by kernel_rfl)) rfl rfl rfl rfl fun a51 H59 => ?_
            clear H58 a50
            refine s_storeA (vs := [_, _, _, _, _, _]) H59 sz48 (by simp) (by simp [Value.oneCell']) rfl rfl hN hB4 (by simp) hgeb4 fun w15 hN hB4 ew15 H60 => ?_
            clear H59
            replace hB2 := hB2.otherE ew15 (by omega)
            replace hB3 := hB3.otherE ew15 (by omega)
            replace hszB := sz_setB ew15 hszB
            simp only [Nat.zero_add, Nat.add_zero, Nat.reduceAdd, Nat.reduceMul, List.set_cons_zero, List.set_cons_succ, spliceL] at hB4
            clear ew15
            refine wl_end ?_
            refine th_n ?_
            refine wpIn_ret ?_
            refine fin_r H60 (resC rfl H60 rfl hB4 ag48) ?_
            first
              | (have hno : ¬ lacc x p := by unfold lacc; omega
                 refine ⟨J12, hN, none, 0, none, 0, ?_, ?_⟩
                 · rw [show lrec x p = lk0 from if_neg hno, show lrecE x p = 500 from if_neg hno]; rfl
                 · rw [show lrec x p = lk0 from if_neg hno]; exact lkAt0 _)
              | (rw [show lrec x p = y from (if_pos hacc : lrec x p = lrec2 (lrec1 x p) p).trans (by rw [hy, hx1]), show lrecE x p = 0 from if_pos hacc]
                 exact ⟨J12, hN, A7, c7, A8, c8, rfl, hLy⟩)
          ·
            try simp only [decide_eq_true_eq, decide_eq_false_iff_not, Bool.or_eq_true, Bool.and_eq_true, Bool.or_eq_false_iff, Bool.and_eq_false_iff, Bool.not_eq_true', Bool.not_eq_false', Int.not_lt, Int.not_le, ne_eq, Decidable.not_not] at hc85
            refine wpIn_skip ?_
            refine th_n ?_
            refine wpIn_seq ?_
            refine w_reg ?_
            obtain ⟨y, A7, c7, A8, c8, hy, hB2, hLy⟩ : ∃ y A7 c7 A8 c8, y = lrec2 x1 p ∧ Box Kz8 w11 b2 [.int .u64 y.key, .slice A7 y.out.length c7, .int .i64 y.base, .slice A8 y.inn.length c8, .int .i64 y.rcv] 26 ∧ LkAt Kz8 y A7 c7 A8 c8 := by
              first
                | exact ⟨x1, A5, c5, A2, c2, by unfold lrec2; rw [if_neg (by omega)], hB2, hL1⟩
                | exact ⟨{ x1 with inn := x1.inn ++ [p.data], rcv := x1.rcv + 1 }, A5, c5, A9, c9, by unfold lrec2; rw [if_pos (by omega)], hB2, ⟨hL1.kk, hL1.kb, by show InK .i64 (x1.rcv + 1); simp only [InK]; omega, hL1.oc, hL1.oe, hc9, hE9⟩⟩
            refine wl1 H45 (r_loadA (cs := [_, _, _, _, _]) ag26 rfl hB2.agg) rfl rfl rfl rfl fun a40 H61 => ?_
            clear H45 a39
            refine wl1 H61 (r_build (v := .agg #[.int .u64 y.key, .slice A7 y.out.length c7, .int .i64 y.base, .slice A8 y.inn.length c8, .int .i64 y.rcv, .int .i64 0]) rfl (fun w => by kernel_rfl)) rfl rfl rfl rfl fun a41 H62 => ?_
            clear H61 a40
            refine s_storeA (vs := [_, _, _, _, _, _]) H62 sz48 (by simp) (by simp [Value.oneCell']) rfl rfl hN hB4 (by simp) hgeb4 fun w16 hN hB4 ew16 H63 => ?_
            clear H62
            replace hB2 := hB2.otherE ew16 (by omega)
            replace hB3 := hB3.otherE ew16 (by omega)
            replace hszB := sz_setB ew16 hszB
            simp only [Nat.zero_add, Nat.add_zero, Nat.reduceAdd, Nat.reduceMul, List.set_cons_zero, List.set_cons_succ, spliceL] at hB4
            clear ew16
            refine wl_end ?_
            refine th_n ?_
            refine wpIn_ret ?_
            refine fin_r H63 (resC rfl H63 rfl hB4 ag48) ?_
            first
              | (have hno : ¬ lacc x p := by unfold lacc; omega
                 refine ⟨Kz8, hN, none, 0, none, 0, ?_, ?_⟩
                 · rw [show lrec x p = lk0 from if_neg hno, show lrecE x p = 500 from if_neg hno]; rfl
                 · rw [show lrec x p = lk0 from if_neg hno]; exact lkAt0 _)
              | (rw [show lrec x p = y from (if_pos hacc : lrec x p = lrec2 (lrec1 x p) p).trans (by rw [hy, hx1]), show lrecE x p = 0 from if_pos hacc]
                 exact ⟨Kz8, hN, A7, c7, A8, c8, rfl, hLy⟩)
        ·
          clear H40
          try simp only [decide_eq_true_eq, decide_eq_false_iff_not, Bool.or_eq_true, Bool.and_eq_true, Bool.or_eq_false_iff, Bool.and_eq_false_iff, Bool.not_eq_true', Bool.not_eq_false', Int.not_lt, Int.not_le, ne_eq, Decidable.not_not] at hg6_11
          refine wl_off (d := 81) H41 rfl rfl rfl rfl rfl rfl fun a36 H64 => ?_
          clear H41 a35
          refine wl_off (d := 81) H64 rfl rfl rfl rfl rfl rfl fun a37 H65 => ?_
          clear H64 a36
          refine wl_off (d := 81) H65 rfl rfl rfl rfl rfl rfl fun a38 H66 => ?_
          clear H65 a37
          refine wl1 H66 (r_pick_f rfl rfl) rfl rfl rfl rfl fun a39 H67 => ?_
          clear H66 a38
          refine wl_end ?_
          refine th_n ?_
          refine w_ff H67 rfl rfl ?_
          refine wpIn_skip ?_
          refine th_n ?_
          refine wpIn_seq ?_
          refine w_reg ?_
          obtain ⟨y, A7, c7, A8, c8, hy, hB2, hLy⟩ : ∃ y A7 c7 A8 c8, y = lrec2 x1 p ∧ Box Kz8 w11 b2 [.int .u64 y.key, .slice A7 y.out.length c7, .int .i64 y.base, .slice A8 y.inn.length c8, .int .i64 y.rcv] 26 ∧ LkAt Kz8 y A7 c7 A8 c8 := by
            first
              | exact ⟨x1, A5, c5, A2, c2, by unfold lrec2; rw [if_neg (by omega)], hB2, hL1⟩
              | exact ⟨{ x1 with inn := x1.inn ++ [p.data], rcv := x1.rcv + 1 }, A5, c5, A9, c9, by unfold lrec2; rw [if_pos (by omega)], hB2, ⟨hL1.kk, hL1.kb, by show InK .i64 (x1.rcv + 1); simp only [InK]; omega, hL1.oc, hL1.oe, hc9, hE9⟩⟩
          refine wl1 H67 (r_loadA (cs := [_, _, _, _, _]) ag26 rfl hB2.agg) rfl rfl rfl rfl fun a40 H68 => ?_
          clear H67 a39
          refine wl1 H68 (r_build (v := .agg #[.int .u64 y.key, .slice A7 y.out.length c7, .int .i64 y.base, .slice A8 y.inn.length c8, .int .i64 y.rcv, .int .i64 0]) rfl (fun w => by kernel_rfl)) rfl rfl rfl rfl fun a41 H69 => ?_
          clear H68 a40
          refine s_storeA (vs := [_, _, _, _, _, _]) H69 sz48 (by simp) (by simp [Value.oneCell']) rfl rfl hN hB4 (by simp) hgeb4 fun w17 hN hB4 ew17 H70 => ?_
          clear H69
          replace hB2 := hB2.otherE ew17 (by omega)
          replace hB3 := hB3.otherE ew17 (by omega)
          replace hszB := sz_setB ew17 hszB
          simp only [Nat.zero_add, Nat.add_zero, Nat.reduceAdd, Nat.reduceMul, List.set_cons_zero, List.set_cons_succ, spliceL] at hB4
          clear ew17
          refine wl_end ?_
          refine th_n ?_
          refine wpIn_ret ?_
          refine fin_r H70 (resC rfl H70 rfl hB4 ag48) ?_
          first
            | (have hno : ¬ lacc x p := by unfold lacc; omega
               refine ⟨Kz8, hN, none, 0, none, 0, ?_, ?_⟩
               · rw [show lrec x p = lk0 from if_neg hno, show lrecE x p = 500 from if_neg hno]; rfl
               · rw [show lrec x p = lk0 from if_neg hno]; exact lkAt0 _)
            | (rw [show lrec x p = y from (if_pos hacc : lrec x p = lrec2 (lrec1 x p) p).trans (by rw [hy, hx1]), show lrecE x p = 0 from if_pos hacc]
               exact ⟨Kz8, hN, A7, c7, A8, c8, rfl, hLy⟩)
      ·
        clear H33
        try simp only [decide_eq_true_eq, decide_eq_false_iff_not, Bool.or_eq_true, Bool.and_eq_true, Bool.or_eq_false_iff, Bool.and_eq_false_iff, Bool.not_eq_true', Bool.not_eq_false', Int.not_lt, Int.not_le, ne_eq, Decidable.not_not] at hg6_5
        refine wl_off (d := 75) H34 rfl rfl rfl rfl rfl rfl fun a30 H71 => ?_
        clear H34 a29
        refine wl_off (d := 75) H71 rfl rfl rfl rfl rfl rfl fun a31 H72 => ?_
        clear H71 a30
        refine wl_off (d := 75) H72 rfl rfl rfl rfl rfl rfl fun a32 H73 => ?_
        clear H72 a31
        refine wl_off (d := 75) H73 rfl rfl rfl rfl rfl rfl fun a33 H74 => ?_
        clear H73 a32
        refine wl1 H74 (r_pick_f rfl rfl) rfl rfl rfl rfl fun a34 H75 => ?_
        clear H74 a33
        refine wl1 H75 (r_move rfl) rfl rfl rfl rfl fun a35 H76 => ?_
        clear H75 a34
        refine wl_off (d := 81) H76 rfl rfl rfl rfl rfl rfl fun a36 H77 => ?_
        clear H76 a35
        refine wl_off (d := 81) H77 rfl rfl rfl rfl rfl rfl fun a37 H78 => ?_
        clear H77 a36
        refine wl_off (d := 81) H78 rfl rfl rfl rfl rfl rfl fun a38 H79 => ?_
        clear H78 a37
        refine wl1 H79 (r_pick_f rfl rfl) rfl rfl rfl rfl fun a39 H80 => ?_
        clear H79 a38
        refine wl_end ?_
        refine th_n ?_
        refine w_ff H80 rfl rfl ?_
        refine wpIn_skip ?_
        refine th_n ?_
        refine wpIn_seq ?_
        refine w_reg ?_
        obtain ⟨y, A7, c7, A8, c8, hy, hB2, hLy⟩ : ∃ y A7 c7 A8 c8, y = lrec2 x1 p ∧ Box Kz8 w11 b2 [.int .u64 y.key, .slice A7 y.out.length c7, .int .i64 y.base, .slice A8 y.inn.length c8, .int .i64 y.rcv] 26 ∧ LkAt Kz8 y A7 c7 A8 c8 := by
          first
            | exact ⟨x1, A5, c5, A2, c2, by unfold lrec2; rw [if_neg (by omega)], hB2, hL1⟩
            | exact ⟨{ x1 with inn := x1.inn ++ [p.data], rcv := x1.rcv + 1 }, A5, c5, A9, c9, by unfold lrec2; rw [if_pos (by omega)], hB2, ⟨hL1.kk, hL1.kb, by show InK .i64 (x1.rcv + 1); simp only [InK]; omega, hL1.oc, hL1.oe, hc9, hE9⟩⟩
        refine wl1 H80 (r_loadA (cs := [_, _, _, _, _]) ag26 rfl hB2.agg) rfl rfl rfl rfl fun a40 H81 => ?_
        clear H80 a39
        refine wl1 H81 (r_build (v := .agg #[.int .u64 y.key, .slice A7 y.out.length c7, .int .i64 y.base, .slice A8 y.inn.length c8, .int .i64 y.rcv, .int .i64 0]) rfl (fun w => by kernel_rfl)) rfl rfl rfl rfl fun a41 H82 => ?_
        clear H81 a40
        refine s_storeA (vs := [_, _, _, _, _, _]) H82 sz48 (by simp) (by simp [Value.oneCell']) rfl rfl hN hB4 (by simp) hgeb4 fun w18 hN hB4 ew18 H83 => ?_
        clear H82
        replace hB2 := hB2.otherE ew18 (by omega)
        replace hB3 := hB3.otherE ew18 (by omega)
        replace hszB := sz_setB ew18 hszB
        simp only [Nat.zero_add, Nat.add_zero, Nat.reduceAdd, Nat.reduceMul, List.set_cons_zero, List.set_cons_succ, spliceL] at hB4
        clear ew18
        refine wl_end ?_
        refine th_n ?_
        refine wpIn_ret ?_
        refine fin_r H83 (resC rfl H83 rfl hB4 ag48) ?_
        first
          | (have hno : ¬ lacc x p := by unfold lacc; omega
             refine ⟨Kz8, hN, none, 0, none, 0, ?_, ?_⟩
             · rw [show lrec x p = lk0 from if_neg hno, show lrecE x p = 500 from if_neg hno]; rfl
             · rw [show lrec x p = lk0 from if_neg hno]; exact lkAt0 _)
          | (rw [show lrec x p = y from (if_pos hacc : lrec x p = lrec2 (lrec1 x p) p).trans (by rw [hy, hx1]), show lrecE x p = 0 from if_pos hacc]
             exact ⟨Kz8, hN, A7, c7, A8, c8, rfl, hLy⟩)
    ·
      try simp only [decide_eq_true_eq, decide_eq_false_iff_not, Bool.or_eq_true, Bool.and_eq_true, Bool.or_eq_false_iff, Bool.and_eq_false_iff, Bool.not_eq_true', Bool.not_eq_false', Int.not_lt, Int.not_le, ne_eq, Decidable.not_not] at hc55
      obtain ⟨x1, A5, c5, hx1, hin1, hrv1, hB2, hL1⟩ : ∃ x1 A5 c5, x1 = lrec1 x p ∧ x1.inn = x.inn ∧ x1.rcv = x.rcv ∧ Box I w5 b2 [.int .u64 x1.key, .slice A5 x1.out.length c5, .int .i64 x1.base, .slice A2 x1.inn.length c2, .int .i64 x1.rcv] 26 ∧ LkAt I x1 A5 c5 A2 c2 := ⟨x, A1, c1, by unfold lrec1; rw [if_neg (by omega)], rfl, rfl, hB2, hL⟩
      have hin2 : x1.inn.length = x.inn.length := by rw [hin1]
      refine wpIn_skip ?_
      refine th_n ?_
      refine wpIn_seq ?_
      refine wpIn_seq ?_
      refine w_reg ?_
      refine wl1 H11 (r_fld fld28_0 rfl) rfl rfl rfl rfl fun a10 H84 => ?_
      clear H11 a9
      refine wl1 H84 (r_load sc3 rfl (hB3.cell rfl)) rfl rfl rfl rfl fun a11 H85 => ?_
      clear H84 a10
      refine wl1 H85 (r_fld fld26_4 rfl) rfl rfl rfl rfl fun a12 H86 => ?_
      clear H85 a11
      refine wl1 H86 (r_load sc3 rfl (hB2.cell rfl)) rfl rfl rfl rfl fun a13 H87 => ?_
      clear H86 a12
      refine wl1 H87 (r_eql rfl rfl) rfl rfl rfl rfl fun a14 H88 => ?_
      clear H87 a13
      refine wl1 H88 (r_move rfl) rfl rfl rfl rfl fun a15 H89 => ?_
      clear H88 a14
      refine wl_split (t := 75) H89 rfl (fun hg6_5 H90 => ?_) (fun hg6_5 H90 => ?_)
      ·
        clear H89
        try simp only [decide_eq_true_eq, decide_eq_false_iff_not, Bool.or_eq_true, Bool.and_eq_true, Bool.or_eq_false_iff, Bool.and_eq_false_iff, Bool.not_eq_true', Bool.not_eq_false', Int.not_lt, Int.not_le, ne_eq, Decidable.not_not] at hg6_5
        refine wl_on (d := 75) H90 rfl rfl rfl ?_
        refine wl1 H90 (r_fld fld26_3 rfl) rfl rfl rfl rfl fun a16 H91 => ?_
        clear H90 a15
        refine wl_on (d := 75) H91 rfl rfl rfl ?_
        refine wl1 H91 (r_load sc24 rfl (hB2.cell rfl)) rfl rfl rfl rfl fun a17 H92 => ?_
        clear H91 a16
        refine wl_on (d := 75) H92 rfl rfl rfl ?_
        refine wl1 H92 (r_len Try.underlying24 rfl) rfl rfl rfl rfl fun a18 H93 => ?_
        clear H92 a17
        refine wl_on (d := 75) H93 rfl rfl rfl ?_
        refine wl1 H93 (r_lss rfl rfl) rfl rfl rfl rfl fun a19 H94 => ?_
        clear H93 a18
        refine wl1 H94 (r_pick_t rfl rfl) rfl rfl rfl rfl fun a20 H95 => ?_
        clear H94 a19
        refine wl1 H95 (r_move rfl) rfl rfl rfl rfl fun a21 H96 => ?_
        clear H95 a20
        refine wl_split (t := 81) H96 rfl (fun hg6_11 H97 => ?_) (fun hg6_11 H97 => ?_)
        ·
          clear H96
          try simp only [decide_eq_true_eq, decide_eq_false_iff_not, Bool.or_eq_true, Bool.and_eq_true, Bool.or_eq_false_iff, Bool.and_eq_false_iff, Bool.not_eq_true', Bool.not_eq_false', Int.not_lt, Int.not_le, ne_eq, Decidable.not_not] at hg6_11
          refine wl_on (d := 81) H97 rfl rfl rfl ?_
          refine wl1 H97 (r_fld fld26_4 rfl) rfl rfl rfl rfl fun a22 H98 => ?_
          clear H97 a21
          refine wl_on (d := 81) H98 rfl rfl rfl ?_
          refine wl1 H98 (r_load sc3 rfl (hB2.cell rfl)) rfl rfl rfl rfl fun a23 H99 => ?_
          clear H98 a22
          refine wl_on (d := 81) H99 rfl rfl rfl ?_
          refine wl1 H99 (r_lss rfl rfl) rfl rfl rfl rfl fun a24 H100 => ?_
          clear H99 a23
          refine wl1 H100 (r_pick_t rfl rfl) rfl rfl rfl rfl fun a25 H101 => ?_
          clear H100 a24
          refine wl_end ?_
          refine th_n ?_
          first | refine w_if H101 rfl (fun hc85 => ?_) (fun hc85 => ?_) | refine w_cond H101 rfl (fun hc85 => ?_) (fun hc85 => ?_)
          ·
            try simp only [decide_eq_true_eq, decide_eq_false_iff_not, Bool.or_eq_true, Bool.and_eq_true, Bool.or_eq_false_iff, Bool.and_eq_false_iff, Bool.not_eq_true', Bool.not_eq_false', Int.not_lt, Int.not_le, ne_eq, Decidable.not_not] at hc85
            refine wpIn_seq ?_
            refine w_reg ?_
            refine wl1 H101 (r_fld fld26_3 rfl) rfl rfl rfl rfl fun a26 H102 => ?_
            clear H101 a25
            refine wl1 H102 (r_load sc24 rfl (hB2.cell rfl)) rfl rfl rfl rfl fun a27 H103 => ?_
            clear H102 a26
            refine wl1 H103 (r_fld fld28_2 rfl) rfl rfl rfl rfl fun a28 H104 => ?_
            clear H103 a27
            refine wl1 H104 (r_load sc23 rfl (hB3.cell rfl)) rfl rfl rfl rfl fun a29 H105 => ?_
            clear H104 a28
            refine wlc  H105 rfl rfl hb43 rfl (rwith50 hN.sat hL1.ie (by omega) hP.de hP.dc) fun v w19 hR a30 H106 => ?_
            clear H105 a29
            obtain ⟨J19, nw19, ⟨A9, c9, rfl, hc9, hE9⟩⟩ := hR
            replace hL := hL.up nw19.le
            replace hP := hP.up nw19.le
            replace hL1 := hL1.up nw19.le
            replace hB2 := hB2.next nw19
            replace hB3 := hB3.next nw19
            replace hB4 := hB4.next nw19
            have hN := hN.trans nw19
            refine wl1 H106 (r_fld fld26_3 rfl) rfl rfl rfl rfl fun a31 H107 => ?_
            clear H106 a30
            refine s_store H107 sz24 rfl rfl rfl hN hB2 (by simp) hgeb2 fun w20 hN hB2 ew20 H108 => ?_
            clear H107
            replace hB3 := hB3.otherE ew20 (by omega)
            replace hB4 := hB4.otherE ew20 (by omega)
            simp only [Nat.zero_add, Nat.add_zero, Nat.reduceAdd, Nat.reduceMul, List.set_cons_zero, List.set_cons_succ, spliceL] at hB2
            clear ew20
            refine wl_end ?_
            refine th_n ?_
            refine w_reg ?_
            refine wl1 H108 (r_fld fld26_4 rfl) rfl rfl rfl rfl fun a32 H109 => ?_
            clear H108 a31
            refine wl1 H109 (r_load sc3 rfl (hB2.cell rfl)) rfl rfl rfl rfl fun a33 H110 => ?_
            clear H109 a32
            first | refine wl1 H110 (r_addk rfl rfl (by simp only [InK]; omega)) rfl rfl rfl rfl fun a34 H111 => ?_ | refine wl1 H110 (r_add rfl rfl) rfl rfl rfl rfl fun a34 H111 => ?_
            clear H110 a33
            refine wl1 H111 (r_fld fld26_4 rfl) rfl rfl rfl rfl fun a35 H112 => ?_
            clear H111 a34
            refine s_store H112 sz3 rfl rfl rfl hN hB2 (by simp) hgeb2 fun w21 hN hB2 ew21 H113 => ?_
            clear H112
            replace hB3 := hB3.otherE ew21 (by omega)
            replace hB4 := hB4.otherE ew21 (by omega)
            simp only [Nat.zero_add, Nat.add_zero, Nat.reduceAdd, Nat.reduceMul, List.set_cons_zero, List.set_cons_succ, spliceL] at hB2
            clear ew21
            refine wl_end ?_
            refine th_n ?_
            refine wpIn_seq ?_
            refine w_reg ?_
            obtain ⟨y, A7, c7, A8, c8, hy, hB2, hLy⟩ : ∃ y A7 c7 A8 c8, y = lrec2 x1 p ∧ Box J19 w21 b2 [.int .u64 y.key, .slice A7 y.out.length c7, .int .i64 y.base, .slice A8 y.inn.length c8, .int .i64 y.rcv] 26 ∧ LkAt J19 y A7 c7 A8 c8 := by
              first
                | exact ⟨x1, A5, c5, A2, c2, by unfold lrec2; rw [if_neg (by omega)], hB2, hL1⟩
                | exact ⟨{ x1 with inn := x1.inn ++ [p.data], rcv := x1.rcv + 1 }, A5, c5, A9, c9, by unfold lrec2; rw [if_pos (by omega)], hB2, ⟨hL1.kk, hL1.kb, by show InK .i64 (x1.rcv + 1); simp only [InK]; omega, hL1.oc, hL1.oe, hc9, hE9⟩⟩
            refine wl1 H113 (r_loadA (cs := [_, _, _, _, _]) ag26 rfl hB2.agg) rfl rfl rfl rfl fun a36 H114 => ?_
            clear H113 a35
            refine wl1 H114 (r_build (v := .agg #[.int .u64 y.key, .slice A7 y.out.length c7, .int .i64 y.base, .slice A8 y.inn.length c8, .int .i64 y.rcv, .int .i64 0]) rfl (fun w => by kernel_rfl)) rfl rfl rfl rfl fun a37 H115 => ?_
            clear H114 a36
            refine s_storeA (vs := [_, _, _, _, _, _]) H115 sz48 (by simp) (by simp [Value.oneCell']) rfl rfl hN hB4 (by simp) hgeb4 fun w22 hN hB4 ew22 H116 => ?_
            clear H115
            replace hB2 := hB2.otherE ew22 (by omega)
            replace hB3 := hB3.otherE ew22 (by omega)
            simp only [Nat.zero_add, Nat.add_zero, Nat.reduceAdd, Nat.reduceMul, List.set_cons_zero, List.set_cons_succ, spliceL] at hB4
            clear ew22
            refine wl_end ?_
            refine th_n ?_
            refine wpIn_ret ?_
            refine fin_r H116 (resC rfl H116 rfl hB4 ag48) ?_
            first
              | (have hno : ¬ lacc x p := by unfold lacc; omega
                 refine ⟨J19, hN, none, 0, none, 0, ?_, ?_⟩
                 · rw [show lrec x p = lk0 from if_neg hno, show lrecE x p = 500 from if_neg hno]; rfl
                 · rw [show lrec x p = lk0 from if_neg hno]; exact lkAt0 _)
              | (rw [show lrec x p = y from (if_pos hacc : lrec x p = lrec2 (lrec1 x p) p).trans (by rw [hy, hx1]), show lrecE x p = 0 from if_pos hacc]
                 exact ⟨J19, hN, A7, c7, A8, c8, rfl, hLy⟩)
          ·
            try simp only [decide_eq_true_eq, decide_eq_false_iff_not, Bool.or_eq_true, Bool.and_eq_true, Bool.or_eq_false_iff, Bool.and_eq_false_iff, Bool.not_eq_true', Bool.not_eq_false', Int.not_lt, Int.not_le, ne_eq, Decidable.not_not] at hc85
            refine wpIn_skip ?_
            refine th_n ?_
            refine wpIn_seq ?_
            refine w_reg ?_
            obtain ⟨y, A7, c7, A8, c8, hy, hB2, hLy⟩ : ∃ y A7 c7 A8 c8, y = lrec2 x1 p ∧ Box I w5 b2 [.int .u64 y.key, .slice A7 y.out.length c7, .int .i64 y.base, .slice A8 y.inn.length c8, .int .i64 y.rcv] 26 ∧ LkAt I y A7 c7 A8 c8 := by
              first
                | exact ⟨x1, A5, c5, A2, c2, by unfold lrec2; rw [if_neg (by omega)], hB2, hL1⟩
                | exact ⟨{ x1 with inn := x1.inn ++ [p.data], rcv := x1.rcv + 1 }, A5, c5, A9, c9, by unfold lrec2; rw [if_pos (by omega)], hB2, ⟨hL1.kk, hL1.kb, by show InK .i64 (x1.rcv + 1); simp only [InK]; omega, hL1.oc, hL1.oe, hc9, hE9⟩⟩
            refine wl1 H101 (r_loadA (cs := [_, _, _, _, _]) ag26 rfl hB2.agg) rfl rfl rfl rfl fun a26 H117 => ?_
            clear H101 a25
            refine wl1 H117 (r_build (v := .agg #[.int .u64 y.key, .slice A7 y.out.length c7, .int .i64 y.base, .slice A8 y.inn.length c8, .int .i64 y.rcv, .int .i64 0]) rfl (fun w => by kernel_rfl)) rfl rfl rfl rfl fun a27 H118 => ?_
            clear H117 a26
            refine s_storeA (vs := [_, _, _, _, _, _]) H118 sz48 (by simp) (by simp [Value.oneCell']) rfl rfl hN hB4 (by simp) hgeb4 fun w23 hN hB4 ew23 H119 => ?_
            clear H118
            replace hB2 := hB2.otherE ew23 (by omega)
            replace hB3 := hB3.otherE ew23 (by omega)
            simp only [Nat.zero_add, Nat.add_zero, Nat.reduceAdd, Nat.reduceMul, List.set_cons_zero, List.set_cons_succ, spliceL] at hB4
            clear ew23
            refine wl_end ?_
            refine th_n ?_
            refine wpIn_ret ?_
            refine fin_r H119 (resC rfl H119 rfl hB4 ag48) ?_
            first
              | (have hno : ¬ lacc x p := by unfold lacc; omega
                 refine ⟨I, hN, none, 0, none, 0, ?_, ?_⟩
                 · rw [show lrec x p = lk0 from if_neg hno, show lrecE x p = 500 from if_neg hno]; rfl
                 · rw [show lrec x p = lk0 from if_neg hno]; exact lkAt0 _)
              | (rw [show lrec x p = y from (if_pos hacc : lrec x p = lrec2 (lrec1 x p) p).trans (by rw [hy, hx1]), show lrecE x p = 0 from if_pos hacc]
                 exact ⟨I, hN, A7, c7, A8, c8, rfl, hLy⟩)
        ·
          clear H96
          try simp only [decide_eq_true_eq, decide_eq_false_iff_not, Bool.or_eq_true, Bool.and_eq_true, Bool.or_eq_false_iff, Bool.and_eq_false_iff, Bool.not_eq_true', Bool.not_eq_false', Int.not_lt, Int.not_le, ne_eq, Decidable.not_not] at hg6_11
          refine wl_off (d := 81) H97 rfl rfl rfl rfl rfl rfl fun a22 H120 => ?_
          clear H97 a21
          refine wl_off (d := 81) H120 rfl rfl rfl rfl rfl rfl fun a23 H121 => ?_
          clear H120 a22
          refine wl_off (d := 81) H121 rfl rfl rfl rfl rfl rfl fun a24 H122 => ?_
          clear H121 a23
          refine wl1 H122 (r_pick_f rfl rfl) rfl rfl rfl rfl fun a25 H123 => ?_
          clear H122 a24
          refine wl_end ?_
          refine th_n ?_
          refine w_ff H123 rfl rfl ?_
          refine wpIn_skip ?_
          refine th_n ?_
          refine wpIn_seq ?_
          refine w_reg ?_
          obtain ⟨y, A7, c7, A8, c8, hy, hB2, hLy⟩ : ∃ y A7 c7 A8 c8, y = lrec2 x1 p ∧ Box I w5 b2 [.int .u64 y.key, .slice A7 y.out.length c7, .int .i64 y.base, .slice A8 y.inn.length c8, .int .i64 y.rcv] 26 ∧ LkAt I y A7 c7 A8 c8 := by
            first
              | exact ⟨x1, A5, c5, A2, c2, by unfold lrec2; rw [if_neg (by omega)], hB2, hL1⟩
              | exact ⟨{ x1 with inn := x1.inn ++ [p.data], rcv := x1.rcv + 1 }, A5, c5, A9, c9, by unfold lrec2; rw [if_pos (by omega)], hB2, ⟨hL1.kk, hL1.kb, by show InK .i64 (x1.rcv + 1); simp only [InK]; omega, hL1.oc, hL1.oe, hc9, hE9⟩⟩
          refine wl1 H123 (r_loadA (cs := [_, _, _, _, _]) ag26 rfl hB2.agg) rfl rfl rfl rfl fun a26 H124 => ?_
          clear H123 a25
          refine wl1 H124 (r_build (v := .agg #[.int .u64 y.key, .slice A7 y.out.length c7, .int .i64 y.base, .slice A8 y.inn.length c8, .int .i64 y.rcv, .int .i64 0]) rfl (fun w => by kernel_rfl)) rfl rfl rfl rfl fun a27 H125 => ?_
          clear H124 a26
          refine s_storeA (vs := [_, _, _, _, _, _]) H125 sz48 (by simp) (by simp [Value.oneCell']) rfl rfl hN hB4 (by simp) hgeb4 fun w24 hN hB4 ew24 H126 => ?_
          clear H125
          replace hB2 := hB2.otherE ew24 (by omega)
          replace hB3 := hB3.otherE ew24 (by omega)
          simp only [Nat.zero_add, Nat.add_zero, Nat.reduceAdd, Nat.reduceMul, List.set_cons_zero, List.set_cons_succ, spliceL] at hB4
          clear ew24
          refine wl_end ?_
          refine th_n ?_
          refine wpIn_ret ?_
          refine fin_r H126 (resC rfl H126 rfl hB4 ag48) ?_
          first
            | (have hno : ¬ lacc x p := by unfold lacc; omega
               refine ⟨I, hN, none, 0, none, 0, ?_, ?_⟩
               · rw [show lrec x p = lk0 from if_neg hno, show lrecE x p = 500 from if_neg hno]; rfl
               · rw [show lrec x p = lk0 from if_neg hno]; exact lkAt0 _)
            | (rw [show lrec x p = y from (if_pos hacc : lrec x p = lrec2 (lrec1 x p) p).trans (by rw [hy, hx1]), show lrecE x p = 0 from if_pos hacc]
               exact ⟨I, hN, A7, c7, A8, c8, rfl, hLy⟩)
      ·
        clear H89
        try simp only [decide_eq_true_eq, decide_eq_false_iff_not, Bool.or_eq_true, Bool.and_eq_true, Bool.or_eq_false_iff, Bool.and_eq_false_iff, Bool.not_eq_true', Bool.not_eq_false', Int.not_lt, Int.not_le, ne_eq, Decidable.not_not] at hg6_5
        refine wl_off (d := 75) H90 rfl rfl rfl rfl rfl rfl fun a16 H127 => ?_
        clear H90 a15
        refine wl_off (d := 75) H127 rfl rfl rfl rfl rfl rfl fun a17 H128 => ?_
        clear H127 a16
        refine wl_off (d := 75) H128 rfl rfl rfl rfl rfl rfl fun a18 H129 => ?_
        clear H128 a17
        refine wl_off (d := 75) H129 rfl rfl rfl rfl rfl rfl fun a19 H130 => ?_
        clear H129 a18
        refine wl1 H130 (r_pick_f rfl rfl) rfl rfl rfl rfl fun a20 H131 => ?_
        clear H130 a19
        refine wl1 H131 (r_move rfl) rfl rfl rfl rfl fun a21 H132 => ?_
        clear H131 a20
        refine wl_off (d := 81) H132 rfl rfl rfl rfl rfl rfl fun a22 H133 => ?_
        clear H132 a21
        refine wl_off (d := 81) H133 rfl rfl rfl rfl rfl rfl fun a23 H134 => ?_
        clear H133 a22
        refine wl_off (d := 81) H134 rfl rfl rfl rfl rfl rfl fun a24 H135 => ?_
        clear H134 a23
        refine wl1 H135 (r_pick_f rfl rfl) rfl rfl rfl rfl fun a25 H136 => ?_
        clear H135 a24
        refine wl_end ?_
        refine th_n ?_
        refine w_ff H136 rfl rfl ?_
        refine wpIn_skip ?_
        refine th_n ?_
        refine wpIn_seq ?_
        refine w_reg ?_
        obtain ⟨y, A7, c7, A8, c8, hy, hB2, hLy⟩ : ∃ y A7 c7 A8 c8, y = lrec2 x1 p ∧ Box I w5 b2 [.int .u64 y.key, .slice A7 y.out.length c7, .int .i64 y.base, .slice A8 y.inn.length c8, .int .i64 y.rcv] 26 ∧ LkAt I y A7 c7 A8 c8 := by
          first
            | exact ⟨x1, A5, c5, A2, c2, by unfold lrec2; rw [if_neg (by omega)], hB2, hL1⟩
            | exact ⟨{ x1 with inn := x1.inn ++ [p.data], rcv := x1.rcv + 1 }, A5, c5, A9, c9, by unfold lrec2; rw [if_pos (by omega)], hB2, ⟨hL1.kk, hL1.kb, by show InK .i64 (x1.rcv + 1); simp only [InK]; omega, hL1.oc, hL1.oe, hc9, hE9⟩⟩
        refine wl1 H136 (r_loadA (cs := [_, _, _, _, _]) ag26 rfl hB2.agg) rfl rfl rfl rfl fun a26 H137 => ?_
        clear H136 a25
        refine wl1 H137 (r_build (v := .agg #[.int .u64 y.key, .slice A7 y.out.length c7, .int .i64 y.base, .slice A8 y.inn.length c8, .int .i64 y.rcv, .int .i64 0]) rfl (fun w => by kernel_rfl)) rfl rfl rfl rfl fun a27 H138 => ?_
        clear H137 a26
        refine s_storeA (vs := [_, _, _, _, _, _]) H138 sz48 (by simp) (by simp [Value.oneCell']) rfl rfl hN hB4 (by simp) hgeb4 fun w25 hN hB4 ew25 H139 => ?_
        clear H138
        replace hB2 := hB2.otherE ew25 (by omega)
        replace hB3 := hB3.otherE ew25 (by omega)
        simp only [Nat.zero_add, Nat.add_zero, Nat.reduceAdd, Nat.reduceMul, List.set_cons_zero, List.set_cons_succ, spliceL] at hB4
        clear ew25
        refine wl_end ?_
        refine th_n ?_
        refine wpIn_ret ?_
        refine fin_r H139 (resC rfl H139 rfl hB4 ag48) ?_
        first
          | (have hno : ¬ lacc x p := by unfold lacc; omega
             refine ⟨I, hN, none, 0, none, 0, ?_, ?_⟩
             · rw [show lrec x p = lk0 from if_neg hno, show lrecE x p = 500 from if_neg hno]; rfl
             · rw [show lrec x p = lk0 from if_neg hno]; exact lkAt0 _)
          | (rw [show lrec x p = y from (if_pos hacc : lrec x p = lrec2 (lrec1 x p) p).trans (by rw [hy, hx1]), show lrecE x p = 0 from if_pos hacc]
             exact ⟨I, hN, A7, c7, A8, c8, rfl, hLy⟩)
set_option maxRecDepth 100000 in
set_option maxHeartbeats 1000000 in
theorem rsamel {A1 A2 A3 A4 : Option Addr} {c1 c2 c3 c4 : Nat} {x y : Lk} {I : Im} {w : World} (hS : Sat I w) (hL : LkAt I x A1 c1 A2 c2) (hM : LkAt I y A3 c3 A4 c4) :
    Ret Try.prog 14 [.agg #[.int .u64 x.key, .slice A1 x.out.length c1, .int .i64 x.base, .slice A2 x.inn.length c2, .int .i64 x.rcv], .agg #[.int .u64 y.key, .slice A3 y.out.length c3, .int .i64 y.base, .slice A4 y.inn.length c4, .int .i64 y.rcv]] w (fun v w' => v = .bool (decide (x = y)) ∧ Gr w w') := by
  refine ret_of (N := 38) Try.func14 rfl rfl rfl fun a0 H0 => ?_
  have hN := New.refl hS
  simp only [argsEnv, Nat.zero_add, Nat.reduceAdd] at H0
  refine wpIn_seq ?_
  refine w_reg ?_
  refine s_box H0 rfl rfl hN fun w1 b2 hN gw1 hB2 hgeb2 heb2 a1 H1 => ?_
  clear H0 a0
  replace hB2 : Box _ _ _ [_, _, _, _, _] 26 := hB2
  refine s_box H1 rfl rfl hN fun w2 b3 hN gw2 hB3 hgeb3 heb3 a2 H2 => ?_
  clear H1 a1
  replace hB3 : Box _ _ _ [_, _, _, _, _] 26 := hB3
  have hne_hB2_b3 := hB2.lt
  rw [← heb3] at hne_hB2_b3
  replace hB2 := hB2.gr gw2
  refine wl1 H2 (r_assign rfl) rfl rfl rfl rfl fun a3 H3 => ?_
  clear H2 a2
  refine wl_end ?_
  refine th_n ?_
  refine wpIn_seq ?_
  refine w_reg ?_
  refine wl1 H3 (r_fld fld26_0 rfl) rfl rfl rfl rfl fun a4 H4 => ?_
  clear H3 a3
  refine wl1 H4 (r_load sc22 rfl (hB2.cell rfl)) rfl rfl rfl rfl fun a5 H5 => ?_
  clear H4 a4
  refine wl1 H5 (r_fld fld26_0 rfl) rfl rfl rfl rfl fun a6 H6 => ?_
  clear H5 a5
  refine wl1 H6 (r_load sc22 rfl (hB3.cell rfl)) rfl rfl rfl rfl fun a7 H7 => ?_
  clear H6 a6
  refine wl1 H7 (r_eql rfl rfl) rfl rfl rfl rfl fun a8 H8 => ?_
  clear H7 a7
  refine wl1 H8 (r_move rfl) rfl rfl rfl rfl fun a9 H9 => ?_
  clear H8 a8
  refine wl_split (t := 10) H9 rfl (fun hg1_5 H10 => ?_) (fun hg1_5 H10 => ?_)
  ·
    clear H9
    try simp only [decide_eq_true_eq, decide_eq_false_iff_not, Bool.or_eq_true, Bool.and_eq_true, Bool.or_eq_false_iff, Bool.and_eq_false_iff, Bool.not_eq_true', Bool.not_eq_false', Int.not_lt, Int.not_le, ne_eq, Decidable.not_not] at hg1_5
    refine wl_on (d := 10) H10 rfl rfl rfl ?_
    refine wl1 H10 (r_fld fld26_2 rfl) rfl rfl rfl rfl fun a10 H11 => ?_
    clear H10 a9
    refine wl_on (d := 10) H11 rfl rfl rfl ?_
    refine wl1 H11 (r_load sc3 rfl (hB2.cell rfl)) rfl rfl rfl rfl fun a11 H12 => ?_
    clear H11 a10
    refine wl_on (d := 10) H12 rfl rfl rfl ?_
    refine wl1 H12 (r_fld fld26_2 rfl) rfl rfl rfl rfl fun a12 H13 => ?_
    clear H12 a11
    refine wl_on (d := 10) H13 rfl rfl rfl ?_
    refine wl1 H13 (r_load sc3 rfl (hB3.cell rfl)) rfl rfl rfl rfl fun a13 H14 => ?_
    clear H13 a12
    refine wl_on (d := 10) H14 rfl rfl rfl ?_
    refine wl1 H14 (r_eql rfl rfl) rfl rfl rfl rfl fun a14 H15 => ?_
    clear H14 a13
    refine wl1 H15 (r_pick_t rfl rfl) rfl rfl rfl rfl fun a15 H16 => ?_
    clear H15 a14
    refine wl1 H16 (r_move rfl) rfl rfl rfl rfl fun a16 H17 => ?_
    clear H16 a15
    refine wl_split (t := 17) H17 rfl (fun hg1_12 H18 => ?_) (fun hg1_12 H18 => ?_)
    ·
      clear H17
      try simp only [decide_eq_true_eq, decide_eq_false_iff_not, Bool.or_eq_true, Bool.and_eq_true, Bool.or_eq_false_iff, Bool.and_eq_false_iff, Bool.not_eq_true', Bool.not_eq_false', Int.not_lt, Int.not_le, ne_eq, Decidable.not_not] at hg1_12
      refine wl_on (d := 17) H18 rfl rfl rfl ?_
      refine wl1 H18 (r_fld fld26_4 rfl) rfl rfl rfl rfl fun a17 H19 => ?_
      clear H18 a16
      refine wl_on (d := 17) H19 rfl rfl rfl ?_
      refine wl1 H19 (r_load sc3 rfl (hB2.cell rfl)) rfl rfl rfl rfl fun a18 H20 => ?_
      clear H19 a17
      refine wl_on (d := 17) H20 rfl rfl rfl ?_
      refine wl1 H20 (r_fld fld26_4 rfl) rfl rfl rfl rfl fun a19 H21 => ?_
      clear H20 a18
      refine wl_on (d := 17) H21 rfl rfl rfl ?_
      refine wl1 H21 (r_load sc3 rfl (hB3.cell rfl)) rfl rfl rfl rfl fun a20 H22 => ?_
      clear H21 a19
      refine wl_on (d := 17) H22 rfl rfl rfl ?_
      refine wl1 H22 (r_eql rfl rfl) rfl rfl rfl rfl fun a21 H23 => ?_
      clear H22 a20
      refine wl1 H23 (r_pick_t rfl rfl) rfl rfl rfl rfl fun a22 H24 => ?_
      clear H23 a21
      refine wl1 H24 (r_move rfl) rfl rfl rfl rfl fun a23 H25 => ?_
      clear H24 a22
      refine wl_split (t := 24) H25 rfl (fun hg1_19 H26 => ?_) (fun hg1_19 H26 => ?_)
      ·
        clear H25
        try simp only [decide_eq_true_eq, decide_eq_false_iff_not, Bool.or_eq_true, Bool.and_eq_true, Bool.or_eq_false_iff, Bool.and_eq_false_iff, Bool.not_eq_true', Bool.not_eq_false', Int.not_lt, Int.not_le, ne_eq, Decidable.not_not] at hg1_19
        refine wl_on (d := 24) H26 rfl rfl rfl ?_
        refine wl1 H26 (r_fld fld26_1 rfl) rfl rfl rfl rfl fun a24 H27 => ?_
        clear H26 a23
        refine wl_on (d := 24) H27 rfl rfl rfl ?_
        refine wl1 H27 (r_load sc24 rfl (hB2.cell rfl)) rfl rfl rfl rfl fun a25 H28 => ?_
        clear H27 a24
        refine wl_on (d := 24) H28 rfl rfl rfl ?_
        refine wl1 H28 (r_fld fld26_1 rfl) rfl rfl rfl rfl fun a26 H29 => ?_
        clear H28 a25
        refine wl_on (d := 24) H29 rfl rfl rfl ?_
        refine wl1 H29 (r_load sc24 rfl (hB3.cell rfl)) rfl rfl rfl rfl fun a27 H30 => ?_
        clear H29 a26
        refine wl_on (d := 24) H30 rfl rfl rfl ?_
        refine wlc  H30 rfl rfl hb34 rfl (rsameall hN.sat hL.oe hM.oe) fun v w3 hR a28 H31 => ?_
        clear H30 a27
        obtain ⟨rfl, gw3⟩ := hR
        have hN := hN.ofGr gw3
        replace hB2 := hB2.gr gw3
        replace hB3 := hB3.gr gw3
        refine wl1 H31 (r_pick_t rfl rfl) rfl rfl rfl rfl fun a29 H32 => ?_
        clear H31 a28
        refine wl1 H32 (r_move rfl) rfl rfl rfl rfl fun a30 H33 => ?_
        clear H32 a29
        refine wl_split (t := 31) H33 rfl (fun hg1_26 H34 => ?_) (fun hg1_26 H34 => ?_)
        ·
          clear H33
          try simp only [decide_eq_true_eq, decide_eq_false_iff_not, Bool.or_eq_true, Bool.and_eq_true, Bool.or_eq_false_iff, Bool.and_eq_false_iff, Bool.not_eq_true', Bool.not_eq_false', Int.not_lt, Int.not_le, ne_eq, Decidable.not_not] at hg1_26
          refine wl_on (d := 31) H34 rfl rfl rfl ?_
          refine wl1 H34 (r_fld fld26_3 rfl) rfl rfl rfl rfl fun a31 H35 => ?_
          clear H34 a30
          refine wl_on (d := 31) H35 rfl rfl rfl ?_
          refine wl1 H35 (r_load sc24 rfl (hB2.cell rfl)) rfl rfl rfl rfl fun a32 H36 => ?_
          clear H35 a31
          refine wl_on (d := 31) H36 rfl rfl rfl ?_
          refine wl1 H36 (r_fld fld26_3 rfl) rfl rfl rfl rfl fun a33 H37 => ?_
          clear H36 a32
          refine wl_on (d := 31) H37 rfl rfl rfl ?_
          refine wl1 H37 (r_load sc24 rfl (hB3.cell rfl)) rfl rfl rfl rfl fun a34 H38 => ?_
          clear H37 a33
          refine wl_on (d := 31) H38 rfl rfl rfl ?_
          refine wlc  H38 rfl rfl hb34 rfl (rsameall hN.sat hL.ie hM.ie) fun v w4 hR a35 H39 => ?_
          clear H38 a34
          obtain ⟨rfl, gw4⟩ := hR
          have hN := hN.ofGr gw4
          replace hB2 := hB2.gr gw4
          replace hB3 := hB3.gr gw4
          refine wl1 H39 (r_pick_t rfl rfl) rfl rfl rfl rfl fun a36 H40 => ?_
          clear H39 a35
          refine wl1 H40 (r_assign rfl) rfl rfl rfl rfl fun a37 H41 => ?_
          clear H40 a36
          refine wl_end ?_
          refine th_n ?_
          refine wpIn_ret ?_
          refine fin_r H41 (res1 rfl H41 rfl) ?_
          refine ⟨congrArg Value.bool ?_, hN.gr⟩
          obtain ⟨xk, xo, xb, xi, xr⟩ := x
          obtain ⟨yk, yo, yb, yi, yr⟩ := y
          simp only [Lk.mk.injEq] at *
          first
            | (simp_all; done)
            | (rw [Bool.eq_iff_iff]; simp_all; done)
            | (symm; rw [Bool.eq_iff_iff]; simp_all; done)
        ·
          clear H33
          try simp only [decide_eq_true_eq, decide_eq_false_iff_not, Bool.or_eq_true, Bool.and_eq_true, Bool.or_eq_false_iff, Bool.and_eq_false_iff, Bool.not_eq_true', Bool.not_eq_false', Int.not_lt, Int.not_le, ne_eq, Decidable.not_not] at hg1_26
          refine wl_off (d := 31) H34 rfl rfl rfl rfl rfl rfl fun a31 H42 => ?_
          clear H34 a30
          refine wl_off (d := 31) H42 rfl rfl rfl rfl rfl rfl fun a32 H43 => ?_
          clear H42 a31
          refine wl_off (d := 31) H43 rfl rfl rfl rfl rfl rfl fun a33 H44 => ?_
          clear H43 a32
          refine wl_off (d := 31) H44 rfl rfl rfl rfl rfl rfl fun a34 H45 => ?_
          clear H44 a33
          refine wl_off (d := 31) H45 rfl rfl rfl rfl rfl rfl fun a35 H46 => ?_
          clear H45 a34
          refine wl1 H46 (r_pick_f rfl rfl) rfl rfl rfl rfl fun a36 H47 => ?_
          clear H46 a35
          refine wl1 H47 (r_assign rfl) rfl rfl rfl rfl fun a37 H48 => ?_
          clear H47 a36
          refine wl_end ?_
          refine th_n ?_
          refine wpIn_ret ?_
          refine fin_r H48 (res1 rfl H48 rfl) ?_
          refine ⟨congrArg Value.bool ?_, hN.gr⟩
          obtain ⟨xk, xo, xb, xi, xr⟩ := x
          obtain ⟨yk, yo, yb, yi, yr⟩ := y
          simp only [Lk.mk.injEq] at *
          first
            | (simp_all; done)
            | (rw [Bool.eq_iff_iff]; simp_all; done)
            | (symm; rw [Bool.eq_iff_iff]; simp_all; done)
      ·
        clear H25
        try simp only [decide_eq_true_eq, decide_eq_false_iff_not, Bool.or_eq_true, Bool.and_eq_true, Bool.or_eq_false_iff, Bool.and_eq_false_iff, Bool.not_eq_true', Bool.not_eq_false', Int.not_lt, Int.not_le, ne_eq, Decidable.not_not] at hg1_19
        refine wl_off (d := 24) H26 rfl rfl rfl rfl rfl rfl fun a24 H49 => ?_
        clear H26 a23
        refine wl_off (d := 24) H49 rfl rfl rfl rfl rfl rfl fun a25 H50 => ?_
        clear H49 a24
        refine wl_off (d := 24) H50 rfl rfl rfl rfl rfl rfl fun a26 H51 => ?_
        clear H50 a25
        refine wl_off (d := 24) H51 rfl rfl rfl rfl rfl rfl fun a27 H52 => ?_
        clear H51 a26
        refine wl_off (d := 24) H52 rfl rfl rfl rfl rfl rfl fun a28 H53 => ?_
        clear H52 a27
        refine wl1 H53 (r_pick_f rfl rfl) rfl rfl rfl rfl fun a29 H54 => ?_
        clear H53 a28
        refine wl1 H54 (r_move rfl) rfl rfl rfl rfl fun a30 H55 => ?_
        clear H54 a29
        refine wl_off (d := 31) H55 rfl rfl rfl rfl rfl rfl fun a31 H56 => ?_
        clear H55 a30
        refine wl_off (d := 31) H56 rfl rfl rfl rfl rfl rfl fun a32 H57 => ?_
        clear H56 a31
        refine wl_off (d := 31) H57 rfl rfl rfl rfl rfl rfl fun a33 H58 => ?_
        clear H57 a32
        refine wl_off (d := 31) H58 rfl rfl rfl rfl rfl rfl fun a34 H59 => ?_
        clear H58 a33
        refine wl_off (d := 31) H59 rfl rfl rfl rfl rfl rfl fun a35 H60 => ?_
        clear H59 a34
        refine wl1 H60 (r_pick_f rfl rfl) rfl rfl rfl rfl fun a36 H61 => ?_
        clear H60 a35
        refine wl1 H61 (r_assign rfl) rfl rfl rfl rfl fun a37 H62 => ?_
        clear H61 a36
        refine wl_end ?_
        refine th_n ?_
        refine wpIn_ret ?_
        refine fin_r H62 (res1 rfl H62 rfl) ?_
        refine ⟨congrArg Value.bool ?_, hN.gr⟩
        obtain ⟨xk, xo, xb, xi, xr⟩ := x
        obtain ⟨yk, yo, yb, yi, yr⟩ := y
        simp only [Lk.mk.injEq] at *
        first
          | (simp_all; done)
          | (rw [Bool.eq_iff_iff]; simp_all; done)
          | (symm; rw [Bool.eq_iff_iff]; simp_all; done)
    ·
      clear H17
      try simp only [decide_eq_true_eq, decide_eq_false_iff_not, Bool.or_eq_true, Bool.and_eq_true, Bool.or_eq_false_iff, Bool.and_eq_false_iff, Bool.not_eq_true', Bool.not_eq_false', Int.not_lt, Int.not_le, ne_eq, Decidable.not_not] at hg1_12
      refine wl_off (d := 17) H18 rfl rfl rfl rfl rfl rfl fun a17 H63 => ?_
      clear H18 a16
      refine wl_off (d := 17) H63 rfl rfl rfl rfl rfl rfl fun a18 H64 => ?_
      clear H63 a17
      refine wl_off (d := 17) H64 rfl rfl rfl rfl rfl rfl fun a19 H65 => ?_
      clear H64 a18
      refine wl_off (d := 17) H65 rfl rfl rfl rfl rfl rfl fun a20 H66 => ?_
      clear H65 a19
      refine wl_off (d := 17) H66 rfl rfl rfl rfl rfl rfl fun a21 H67 => ?_
      clear H66 a20
      refine wl1 H67 (r_pick_f rfl rfl) rfl rfl rfl rfl fun a22 H68 => ?_
      clear H67 a21
      refine wl1 H68 (r_move rfl) rfl rfl rfl rfl fun a23 H69 => ?_
      clear H68 a22
      refine wl_off (d := 24) H69 rfl rfl rfl rfl rfl rfl fun a24 H70 => ?_
      clear H69 a23
      refine wl_off (d := 24) H70 rfl rfl rfl rfl rfl rfl fun a25 H71 => ?_
      clear H70 a24
      refine wl_off (d := 24) H71 rfl rfl rfl rfl rfl rfl fun a26 H72 => ?_
      clear H71 a25
      refine wl_off (d := 24) H72 rfl rfl rfl rfl rfl rfl fun a27 H73 => ?_
      clear H72 a26
      refine wl_off (d := 24) H73 rfl rfl rfl rfl rfl rfl fun a28 H74 => ?_
      clear H73 a27
      refine wl1 H74 (r_pick_f rfl rfl) rfl rfl rfl rfl fun a29 H75 => ?_
      clear H74 a28
      refine wl1 H75 (r_move rfl) rfl rfl rfl rfl fun a30 H76 => ?_
      clear H75 a29
      refine wl_off (d := 31) H76 rfl rfl rfl rfl rfl rfl fun a31 H77 => ?_
      clear H76 a30
      refine wl_off (d := 31) H77 rfl rfl rfl rfl rfl rfl fun a32 H78 => ?_
      clear H77 a31
      refine wl_off (d := 31) H78 rfl rfl rfl rfl rfl rfl fun a33 H79 => ?_
      clear H78 a32
      refine wl_off (d := 31) H79 rfl rfl rfl rfl rfl rfl fun a34 H80 => ?_
      clear H79 a33
      refine wl_off (d := 31) H80 rfl rfl rfl rfl rfl rfl fun a35 H81 => ?_
      clear H80 a34
      refine wl1 H81 (r_pick_f rfl rfl) rfl rfl rfl rfl fun a36 H82 => ?_
      clear H81 a35
      refine wl1 H82 (r_assign rfl) rfl rfl rfl rfl fun a37 H83 => ?_
      clear H82 a36
      refine wl_end ?_
      refine th_n ?_
      refine wpIn_ret ?_
      refine fin_r H83 (res1 rfl H83 rfl) ?_
      refine ⟨congrArg Value.bool ?_, hN.gr⟩
      obtain ⟨xk, xo, xb, xi, xr⟩ := x
      obtain ⟨yk, yo, yb, yi, yr⟩ := y
      simp only [Lk.mk.injEq] at *
      first
        | (simp_all; done)
        | (rw [Bool.eq_iff_iff]; simp_all; done)
        | (symm; rw [Bool.eq_iff_iff]; simp_all; done)
  ·
    clear H9
    try simp only [decide_eq_true_eq, decide_eq_false_iff_not, Bool.or_eq_true, Bool.and_eq_true, Bool.or_eq_false_iff, Bool.and_eq_false_iff, Bool.not_eq_true', Bool.not_eq_false', Int.not_lt, Int.not_le, ne_eq, Decidable.not_not] at hg1_5
    refine wl_off (d := 10) H10 rfl rfl rfl rfl rfl rfl fun a10 H84 => ?_
    clear H10 a9
    refine wl_off (d := 10) H84 rfl rfl rfl rfl rfl rfl fun a11 H85 => ?_
    clear H84 a10
    refine wl_off (d := 10) H85 rfl rfl rfl rfl rfl rfl fun a12 H86 => ?_
    clear H85 a11
    refine wl_off (d := 10) H86 rfl rfl rfl rfl rfl rfl fun a13 H87 => ?_
    clear H86 a12
    refine wl_off (d := 10) H87 rfl rfl rfl rfl rfl rfl fun a14 H88 => ?_
    clear H87 a13
    refine wl1 H88 (r_pick_f rfl rfl) rfl rfl rfl rfl fun a15 H89 => ?_
    clear H88 a14
    refine wl1 H89 (r_move rfl) rfl rfl rfl rfl fun a16 H90 => ?_
    clear H89 a15
    refine wl_off (d := 17) H90 rfl rfl rfl rfl rfl rfl fun a17 H91 => ?_
    clear H90 a16
    refine wl_off (d := 17) H91 rfl rfl rfl rfl rfl rfl fun a18 H92 => ?_
    clear H91 a17
    refine wl_off (d := 17) H92 rfl rfl rfl rfl rfl rfl fun a19 H93 => ?_
    clear H92 a18
    refine wl_off (d := 17) H93 rfl rfl rfl rfl rfl rfl fun a20 H94 => ?_
    clear H93 a19
    refine wl_off (d := 17) H94 rfl rfl rfl rfl rfl rfl fun a21 H95 => ?_
    clear H94 a20
    refine wl1 H95 (r_pick_f rfl rfl) rfl rfl rfl rfl fun a22 H96 => ?_
    clear H95 a21
    refine wl1 H96 (r_move rfl) rfl rfl rfl rfl fun a23 H97 => ?_
    clear H96 a22
    refine wl_off (d := 24) H97 rfl rfl rfl rfl rfl rfl fun a24 H98 => ?_
    clear H97 a23
    refine wl_off (d := 24) H98 rfl rfl rfl rfl rfl rfl fun a25 H99 => ?_
    clear H98 a24
    refine wl_off (d := 24) H99 rfl rfl rfl rfl rfl rfl fun a26 H100 => ?_
    clear H99 a25
    refine wl_off (d := 24) H100 rfl rfl rfl rfl rfl rfl fun a27 H101 => ?_
    clear H100 a26
    refine wl_off (d := 24) H101 rfl rfl rfl rfl rfl rfl fun a28 H102 => ?_
    clear H101 a27
    refine wl1 H102 (r_pick_f rfl rfl) rfl rfl rfl rfl fun a29 H103 => ?_
    clear H102 a28
    refine wl1 H103 (r_move rfl) rfl rfl rfl rfl fun a30 H104 => ?_
    clear H103 a29
    refine wl_off (d := 31) H104 rfl rfl rfl rfl rfl rfl fun a31 H105 => ?_
    clear H104 a30
    refine wl_off (d := 31) H105 rfl rfl rfl rfl rfl rfl fun a32 H106 => ?_
    clear H105 a31
    refine wl_off (d := 31) H106 rfl rfl rfl rfl rfl rfl fun a33 H107 => ?_
    clear H106 a32
    refine wl_off (d := 31) H107 rfl rfl rfl rfl rfl rfl fun a34 H108 => ?_
    clear H107 a33
    refine wl_off (d := 31) H108 rfl rfl rfl rfl rfl rfl fun a35 H109 => ?_
    clear H108 a34
    refine wl1 H109 (r_pick_f rfl rfl) rfl rfl rfl rfl fun a36 H110 => ?_
    clear H109 a35
    refine wl1 H110 (r_assign rfl) rfl rfl rfl rfl fun a37 H111 => ?_
    clear H110 a36
    refine wl_end ?_
    refine th_n ?_
    refine wpIn_ret ?_
    refine fin_r H111 (res1 rfl H111 rfl) ?_
    refine ⟨congrArg Value.bool ?_, hN.gr⟩
    obtain ⟨xk, xo, xb, xi, xr⟩ := x
    obtain ⟨yk, yo, yb, yi, yr⟩ := y
    simp only [Lk.mk.injEq] at *
    first
      | (simp_all; done)
      | (rw [Bool.eq_iff_iff]; simp_all; done)
      | (symm; rw [Bool.eq_iff_iff]; simp_all; done)
set_option maxRecDepth 100000 in
set_option maxHeartbeats 400000 in
theorem rsamep {A1 A2 : Option Addr} {c1 c2 : Nat} {x y : Pk} {I : Im} {w : World} (hS : Sat I w) (hL : PkAt I x A1 c1) (hM : PkAt I y A2 c2) :
    Ret Try.prog 28 [.agg #[.int .i64 x.seq, .int .i64 x.ack, .slice A1 x.data.length c1, .int .u64 x.chk], .agg #[.int .i64 y.seq, .int .i64 y.ack, .slice A2 y.data.length c2, .int .u64 y.chk]] w (fun v w' => v = .bool (decide (x = y)) ∧ Gr w w') := by
  refine ret_of (N := 31) Try.func28 rfl rfl rfl fun a0 H0 => ?_
  have hN := New.refl hS
  simp only [argsEnv, Nat.zero_add, Nat.reduceAdd] at H0
  refine wpIn_seq ?_
  refine w_reg ?_
  refine s_box H0 rfl rfl hN fun w1 b2 hN gw1 hB2 hgeb2 heb2 a1 H1 => ?_
  clear H0 a0
  replace hB2 : Box _ _ _ [_, _, _, _] 28 := hB2
  refine s_box H1 rfl rfl hN fun w2 b3 hN gw2 hB3 hgeb3 heb3 a2 H2 => ?_
  clear H1 a1
  replace hB3 : Box _ _ _ [_, _, _, _] 28 := hB3
  have hne_hB2_b3 := hB2.lt
  rw [← heb3] at hne_hB2_b3
  replace hB2 := hB2.gr gw2
  refine wl1 H2 (r_assign rfl) rfl rfl rfl rfl fun a3 H3 => ?_
  clear H2 a2
  refine wl_end ?_
  refine th_n ?_
  refine wpIn_seq ?_
  refine w_reg ?_
  refine wl1 H3 (r_fld fld28_0 rfl) rfl rfl rfl rfl fun a4 H4 => ?_
  clear H3 a3
  refine wl1 H4 (r_load sc3 rfl (hB2.cell rfl)) rfl rfl rfl rfl fun a5 H5 => ?_
  clear H4 a4
  refine wl1 H5 (r_fld fld28_0 rfl) rfl rfl rfl rfl fun a6 H6 => ?_
  clear H5 a5
  refine wl1 H6 (r_load sc3 rfl (hB3.cell rfl)) rfl rfl rfl rfl fun a7 H7 => ?_
  clear H6 a6
  refine wl1 H7 (r_eql rfl rfl) rfl rfl rfl rfl fun a8 H8 => ?_
  clear H7 a7
  refine wl1 H8 (r_move rfl) rfl rfl rfl rfl fun a9 H9 => ?_
  clear H8 a8
  refine wl_split (t := 10) H9 rfl (fun hg1_5 H10 => ?_) (fun hg1_5 H10 => ?_)
  ·
    clear H9
    try simp only [decide_eq_true_eq, decide_eq_false_iff_not, Bool.or_eq_true, Bool.and_eq_true, Bool.or_eq_false_iff, Bool.and_eq_false_iff, Bool.not_eq_true', Bool.not_eq_false', Int.not_lt, Int.not_le, ne_eq, Decidable.not_not] at hg1_5
    refine wl_on (d := 10) H10 rfl rfl rfl ?_
    refine wl1 H10 (r_fld fld28_1 rfl) rfl rfl rfl rfl fun a10 H11 => ?_
    clear H10 a9
    refine wl_on (d := 10) H11 rfl rfl rfl ?_
    refine wl1 H11 (r_load sc3 rfl (hB2.cell rfl)) rfl rfl rfl rfl fun a11 H12 => ?_
    clear H11 a10
    refine wl_on (d := 10) H12 rfl rfl rfl ?_
    refine wl1 H12 (r_fld fld28_1 rfl) rfl rfl rfl rfl fun a12 H13 => ?_
    clear H12 a11
    refine wl_on (d := 10) H13 rfl rfl rfl ?_
    refine wl1 H13 (r_load sc3 rfl (hB3.cell rfl)) rfl rfl rfl rfl fun a13 H14 => ?_
    clear H13 a12
    refine wl_on (d := 10) H14 rfl rfl rfl ?_
    refine wl1 H14 (r_eql rfl rfl) rfl rfl rfl rfl fun a14 H15 => ?_
    clear H14 a13
    refine wl1 H15 (r_pick_t rfl rfl) rfl rfl rfl rfl fun a15 H16 => ?_
    clear H15 a14
    refine wl1 H16 (r_move rfl) rfl rfl rfl rfl fun a16 H17 => ?_
    clear H16 a15
    refine wl_split (t := 17) H17 rfl (fun hg1_12 H18 => ?_) (fun hg1_12 H18 => ?_)
    ·
      clear H17
      try simp only [decide_eq_true_eq, decide_eq_false_iff_not, Bool.or_eq_true, Bool.and_eq_true, Bool.or_eq_false_iff, Bool.and_eq_false_iff, Bool.not_eq_true', Bool.not_eq_false', Int.not_lt, Int.not_le, ne_eq, Decidable.not_not] at hg1_12
      refine wl_on (d := 17) H18 rfl rfl rfl ?_
      refine wl1 H18 (r_fld fld28_3 rfl) rfl rfl rfl rfl fun a17 H19 => ?_
      clear H18 a16
      refine wl_on (d := 17) H19 rfl rfl rfl ?_
      refine wl1 H19 (r_load sc22 rfl (hB2.cell rfl)) rfl rfl rfl rfl fun a18 H20 => ?_
      clear H19 a17
      refine wl_on (d := 17) H20 rfl rfl rfl ?_
      refine wl1 H20 (r_fld fld28_3 rfl) rfl rfl rfl rfl fun a19 H21 => ?_
      clear H20 a18
      refine wl_on (d := 17) H21 rfl rfl rfl ?_
      refine wl1 H21 (r_load sc22 rfl (hB3.cell rfl)) rfl rfl rfl rfl fun a20 H22 => ?_
      clear H21 a19
      refine wl_on (d := 17) H22 rfl rfl rfl ?_
      refine wl1 H22 (r_eql rfl rfl) rfl rfl rfl rfl fun a21 H23 => ?_
      clear H22 a20
      refine wl1 H23 (r_pick_t rfl rfl) rfl rfl rfl rfl fun a22 H24 => ?_
      clear H23 a21
      refine wl1 H24 (r_move rfl) rfl rfl rfl rfl fun a23 H25 => ?_
      clear H24 a22
      refine wl_split (t := 24) H25 rfl (fun hg1_19 H26 => ?_) (fun hg1_19 H26 => ?_)
      ·
        clear H25
        try simp only [decide_eq_true_eq, decide_eq_false_iff_not, Bool.or_eq_true, Bool.and_eq_true, Bool.or_eq_false_iff, Bool.and_eq_false_iff, Bool.not_eq_true', Bool.not_eq_false', Int.not_lt, Int.not_le, ne_eq, Decidable.not_not] at hg1_19
        refine wl_on (d := 24) H26 rfl rfl rfl ?_
        refine wl1 H26 (r_fld fld28_2 rfl) rfl rfl rfl rfl fun a24 H27 => ?_
        clear H26 a23
        refine wl_on (d := 24) H27 rfl rfl rfl ?_
        refine wl1 H27 (r_load sc23 rfl (hB2.cell rfl)) rfl rfl rfl rfl fun a25 H28 => ?_
        clear H27 a24
        refine wl_on (d := 24) H28 rfl rfl rfl ?_
        refine wl1 H28 (r_fld fld28_2 rfl) rfl rfl rfl rfl fun a26 H29 => ?_
        clear H28 a25
        refine wl_on (d := 24) H29 rfl rfl rfl ?_
        refine wl1 H29 (r_load sc23 rfl (hB3.cell rfl)) rfl rfl rfl rfl fun a27 H30 => ?_
        clear H29 a26
        refine wl_on (d := 24) H30 rfl rfl rfl ?_
        refine wlc  H30 rfl rfl hb27 rfl (rsame8 hN.sat hL.de hM.de) fun v w3 hR a28 H31 => ?_
        clear H30 a27
        obtain ⟨rfl, gw3⟩ := hR
        have hN := hN.ofGr gw3
        replace hB2 := hB2.gr gw3
        replace hB3 := hB3.gr gw3
        refine wl1 H31 (r_pick_t rfl rfl) rfl rfl rfl rfl fun a29 H32 => ?_
        clear H31 a28
        refine wl1 H32 (r_assign rfl) rfl rfl rfl rfl fun a30 H33 => ?_
        clear H32 a29
        refine wl_end ?_
        refine th_n ?_
        refine wpIn_ret ?_
        refine fin_r H33 (res1 rfl H33 rfl) ?_
        refine ⟨congrArg Value.bool ?_, hN.gr⟩
        obtain ⟨xs, xa, xd, xc⟩ := x
        obtain ⟨ys, ya, yd, yc⟩ := y
        simp only [Pk.mk.injEq] at *
        first
          | (simp_all; done)
          | (rw [Bool.eq_iff_iff]; simp_all; done)
          | (symm; rw [Bool.eq_iff_iff]; simp_all; done)
      ·
        clear H25
        try simp only [decide_eq_true_eq, decide_eq_false_iff_not, Bool.or_eq_true, Bool.and_eq_true, Bool.or_eq_false_iff, Bool.and_eq_false_iff, Bool.not_eq_true', Bool.not_eq_false', Int.not_lt, Int.not_le, ne_eq, Decidable.not_not] at hg1_19
        refine wl_off (d := 24) H26 rfl rfl rfl rfl rfl rfl fun a24 H34 => ?_
        clear H26 a23
        refine wl_off (d := 24) H34 rfl rfl rfl rfl rfl rfl fun a25 H35 => ?_
        clear H34 a24
        refine wl_off (d := 24) H35 rfl rfl rfl rfl rfl rfl fun a26 H36 => ?_
        clear H35 a25
        refine wl_off (d := 24) H36 rfl rfl rfl rfl rfl rfl fun a27 H37 => ?_
        clear H36 a26
        refine wl_off (d := 24) H37 rfl rfl rfl rfl rfl rfl fun a28 H38 => ?_
        clear H37 a27
        refine wl1 H38 (r_pick_f rfl rfl) rfl rfl rfl rfl fun a29 H39 => ?_
        clear H38 a28
        refine wl1 H39 (r_assign rfl) rfl rfl rfl rfl fun a30 H40 => ?_
        clear H39 a29
        refine wl_end ?_
        refine th_n ?_
        refine wpIn_ret ?_
        refine fin_r H40 (res1 rfl H40 rfl) ?_
        refine ⟨congrArg Value.bool ?_, hN.gr⟩
        obtain ⟨xs, xa, xd, xc⟩ := x
        obtain ⟨ys, ya, yd, yc⟩ := y
        simp only [Pk.mk.injEq] at *
        first
          | (simp_all; done)
          | (rw [Bool.eq_iff_iff]; simp_all; done)
          | (symm; rw [Bool.eq_iff_iff]; simp_all; done)
    ·
      clear H17
      try simp only [decide_eq_true_eq, decide_eq_false_iff_not, Bool.or_eq_true, Bool.and_eq_true, Bool.or_eq_false_iff, Bool.and_eq_false_iff, Bool.not_eq_true', Bool.not_eq_false', Int.not_lt, Int.not_le, ne_eq, Decidable.not_not] at hg1_12
      refine wl_off (d := 17) H18 rfl rfl rfl rfl rfl rfl fun a17 H41 => ?_
      clear H18 a16
      refine wl_off (d := 17) H41 rfl rfl rfl rfl rfl rfl fun a18 H42 => ?_
      clear H41 a17
      refine wl_off (d := 17) H42 rfl rfl rfl rfl rfl rfl fun a19 H43 => ?_
      clear H42 a18
      refine wl_off (d := 17) H43 rfl rfl rfl rfl rfl rfl fun a20 H44 => ?_
      clear H43 a19
      refine wl_off (d := 17) H44 rfl rfl rfl rfl rfl rfl fun a21 H45 => ?_
      clear H44 a20
      refine wl1 H45 (r_pick_f rfl rfl) rfl rfl rfl rfl fun a22 H46 => ?_
      clear H45 a21
      refine wl1 H46 (r_move rfl) rfl rfl rfl rfl fun a23 H47 => ?_
      clear H46 a22
      refine wl_off (d := 24) H47 rfl rfl rfl rfl rfl rfl fun a24 H48 => ?_
      clear H47 a23
      refine wl_off (d := 24) H48 rfl rfl rfl rfl rfl rfl fun a25 H49 => ?_
      clear H48 a24
      refine wl_off (d := 24) H49 rfl rfl rfl rfl rfl rfl fun a26 H50 => ?_
      clear H49 a25
      refine wl_off (d := 24) H50 rfl rfl rfl rfl rfl rfl fun a27 H51 => ?_
      clear H50 a26
      refine wl_off (d := 24) H51 rfl rfl rfl rfl rfl rfl fun a28 H52 => ?_
      clear H51 a27
      refine wl1 H52 (r_pick_f rfl rfl) rfl rfl rfl rfl fun a29 H53 => ?_
      clear H52 a28
      refine wl1 H53 (r_assign rfl) rfl rfl rfl rfl fun a30 H54 => ?_
      clear H53 a29
      refine wl_end ?_
      refine th_n ?_
      refine wpIn_ret ?_
      refine fin_r H54 (res1 rfl H54 rfl) ?_
      refine ⟨congrArg Value.bool ?_, hN.gr⟩
      obtain ⟨xs, xa, xd, xc⟩ := x
      obtain ⟨ys, ya, yd, yc⟩ := y
      simp only [Pk.mk.injEq] at *
      first
        | (simp_all; done)
        | (rw [Bool.eq_iff_iff]; simp_all; done)
        | (symm; rw [Bool.eq_iff_iff]; simp_all; done)
  ·
    clear H9
    try simp only [decide_eq_true_eq, decide_eq_false_iff_not, Bool.or_eq_true, Bool.and_eq_true, Bool.or_eq_false_iff, Bool.and_eq_false_iff, Bool.not_eq_true', Bool.not_eq_false', Int.not_lt, Int.not_le, ne_eq, Decidable.not_not] at hg1_5
    refine wl_off (d := 10) H10 rfl rfl rfl rfl rfl rfl fun a10 H55 => ?_
    clear H10 a9
    refine wl_off (d := 10) H55 rfl rfl rfl rfl rfl rfl fun a11 H56 => ?_
    clear H55 a10
    refine wl_off (d := 10) H56 rfl rfl rfl rfl rfl rfl fun a12 H57 => ?_
    clear H56 a11
    refine wl_off (d := 10) H57 rfl rfl rfl rfl rfl rfl fun a13 H58 => ?_
    clear H57 a12
    refine wl_off (d := 10) H58 rfl rfl rfl rfl rfl rfl fun a14 H59 => ?_
    clear H58 a13
    refine wl1 H59 (r_pick_f rfl rfl) rfl rfl rfl rfl fun a15 H60 => ?_
    clear H59 a14
    refine wl1 H60 (r_move rfl) rfl rfl rfl rfl fun a16 H61 => ?_
    clear H60 a15
    refine wl_off (d := 17) H61 rfl rfl rfl rfl rfl rfl fun a17 H62 => ?_
    clear H61 a16
    refine wl_off (d := 17) H62 rfl rfl rfl rfl rfl rfl fun a18 H63 => ?_
    clear H62 a17
    refine wl_off (d := 17) H63 rfl rfl rfl rfl rfl rfl fun a19 H64 => ?_
    clear H63 a18
    refine wl_off (d := 17) H64 rfl rfl rfl rfl rfl rfl fun a20 H65 => ?_
    clear H64 a19
    refine wl_off (d := 17) H65 rfl rfl rfl rfl rfl rfl fun a21 H66 => ?_
    clear H65 a20
    refine wl1 H66 (r_pick_f rfl rfl) rfl rfl rfl rfl fun a22 H67 => ?_
    clear H66 a21
    refine wl1 H67 (r_move rfl) rfl rfl rfl rfl fun a23 H68 => ?_
    clear H67 a22
    refine wl_off (d := 24) H68 rfl rfl rfl rfl rfl rfl fun a24 H69 => ?_
    clear H68 a23
    refine wl_off (d := 24) H69 rfl rfl rfl rfl rfl rfl fun a25 H70 => ?_
    clear H69 a24
    refine wl_off (d := 24) H70 rfl rfl rfl rfl rfl rfl fun a26 H71 => ?_
    clear H70 a25
    refine wl_off (d := 24) H71 rfl rfl rfl rfl rfl rfl fun a27 H72 => ?_
    clear H71 a26
    refine wl_off (d := 24) H72 rfl rfl rfl rfl rfl rfl fun a28 H73 => ?_
    clear H72 a27
    refine wl1 H73 (r_pick_f rfl rfl) rfl rfl rfl rfl fun a29 H74 => ?_
    clear H73 a28
    refine wl1 H74 (r_assign rfl) rfl rfl rfl rfl fun a30 H75 => ?_
    clear H74 a29
    refine wl_end ?_
    refine th_n ?_
    refine wpIn_ret ?_
    refine fin_r H75 (res1 rfl H75 rfl) ?_
    refine ⟨congrArg Value.bool ?_, hN.gr⟩
    obtain ⟨xs, xa, xd, xc⟩ := x
    obtain ⟨ys, ya, yd, yc⟩ := y
    simp only [Pk.mk.injEq] at *
    first
      | (simp_all; done)
      | (rw [Bool.eq_iff_iff]; simp_all; done)
      | (symm; rw [Bool.eq_iff_iff]; simp_all; done)
set_option maxRecDepth 100000 in
set_option maxHeartbeats 400000 in
theorem lalike {A1 A2 A3 A4 : Option Addr} {c1 c2 c3 c4 : Nat} {x y : Lk} {e e2 : Int} {I : Im} {w : World} (hS : Sat I w) (hL : LkAt I x A1 c1 A2 c2) (hM : LkAt I y A3 c3 A4 c4) :
    Ret Try.prog 22 [.agg #[.int .u64 x.key, .slice A1 x.out.length c1, .int .i64 x.base, .slice A2 x.inn.length c2, .int .i64 x.rcv, .int .i64 e], .agg #[.int .u64 y.key, .slice A3 y.out.length c3, .int .i64 y.base, .slice A4 y.inn.length c4, .int .i64 y.rcv, .int .i64 e2]] w (fun v w' => v = .bool (decide (e = e2) && decide (x = y)) ∧ Gr w w') := by
  refine ret_of (N := 17) Try.func22 rfl rfl rfl fun a0 H0 => ?_
  have hN := New.refl hS
  simp only [argsEnv, Nat.zero_add, Nat.reduceAdd] at H0
  refine wpIn_seq ?_
  refine w_reg ?_
  refine s_box H0 rfl rfl hN fun w1 b2 hN gw1 hB2 hgeb2 heb2 a1 H1 => ?_
  clear H0 a0
  replace hB2 : Box _ _ _ [_, _, _, _, _, _] 48 := hB2
  refine s_box H1 rfl rfl hN fun w2 b3 hN gw2 hB3 hgeb3 heb3 a2 H2 => ?_
  clear H1 a1
  replace hB3 : Box _ _ _ [_, _, _, _, _, _] 48 := hB3
  have hne_hB2_b3 := hB2.lt
  rw [← heb3] at hne_hB2_b3
  replace hB2 := hB2.gr gw2
  refine wl1 H2 (r_assign rfl) rfl rfl rfl rfl fun a3 H3 => ?_
  clear H2 a2
  refine wl_end ?_
  refine th_n ?_
  refine wpIn_seq ?_
  refine w_reg ?_
  refine wl1 H3 (r_fld fld48_1 rfl) rfl rfl rfl rfl fun a4 H4 => ?_
  clear H3 a3
  refine wl1 H4 (r_load sc39 rfl (hB2.cell rfl)) rfl rfl rfl rfl fun a5 H5 => ?_
  clear H4 a4
  refine wl1 H5 (r_fld fld48_1 rfl) rfl rfl rfl rfl fun a6 H6 => ?_
  clear H5 a5
  refine wl1 H6 (r_load sc39 rfl (hB3.cell rfl)) rfl rfl rfl rfl fun a7 H7 => ?_
  clear H6 a6
  refine wl1 H7 (r_eql rfl rfl) rfl rfl rfl rfl fun a8 H8 => ?_
  clear H7 a7
  refine wl1 H8 (r_move rfl) rfl rfl rfl rfl fun a9 H9 => ?_
  clear H8 a8
  refine wl_split (t := 10) H9 rfl (fun hg1_5 H10 => ?_) (fun hg1_5 H10 => ?_)
  ·
    clear H9
    try simp only [decide_eq_true_eq, decide_eq_false_iff_not, Bool.or_eq_true, Bool.and_eq_true, Bool.or_eq_false_iff, Bool.and_eq_false_iff, Bool.not_eq_true', Bool.not_eq_false', Int.not_lt, Int.not_le, ne_eq, Decidable.not_not] at hg1_5
    refine wl_on (d := 10) H10 rfl rfl rfl ?_
    refine wl1 H10 (r_fld fld48_0 rfl) rfl rfl rfl rfl fun a10 H11 => ?_
    clear H10 a9
    refine wl_on (d := 10) H11 rfl rfl rfl ?_
    refine wl1 H11 (Box.loadO ag26 rfl hB2 (by simp)) rfl rfl rfl rfl fun a11 H12 => ?_
    clear H11 a10
    refine wl_on (d := 10) H12 rfl rfl rfl ?_
    refine wl1 H12 (r_fld fld48_0 rfl) rfl rfl rfl rfl fun a12 H13 => ?_
    clear H12 a11
    refine wl_on (d := 10) H13 rfl rfl rfl ?_
    refine wl1 H13 (Box.loadO ag26 rfl hB3 (by simp)) rfl rfl rfl rfl fun a13 H14 => ?_
    clear H13 a12
    refine wl_on (d := 10) H14 rfl rfl rfl ?_
    refine wlc  H14 rfl rfl hb14 rfl (rsamel hN.sat hL hM) fun v w3 hR a14 H15 => ?_
    clear H14 a13
    obtain ⟨rfl, gw3⟩ := hR
    have hN := hN.ofGr gw3
    replace hB2 := hB2.gr gw3
    replace hB3 := hB3.gr gw3
    refine wl1 H15 (r_pick_t rfl rfl) rfl rfl rfl rfl fun a15 H16 => ?_
    clear H15 a14
    refine wl1 H16 (r_assign rfl) rfl rfl rfl rfl fun a16 H17 => ?_
    clear H16 a15
    refine wl_end ?_
    refine th_n ?_
    refine wpIn_ret ?_
    refine fin_r H17 (res1 rfl H17 rfl) ?_
    refine ⟨congrArg Value.bool ?_, hN.gr⟩
    first
      | (simp_all; done)
      | (rw [Bool.eq_iff_iff]; simp_all; done)
  ·
    clear H9
    try simp only [decide_eq_true_eq, decide_eq_false_iff_not, Bool.or_eq_true, Bool.and_eq_true, Bool.or_eq_false_iff, Bool.and_eq_false_iff, Bool.not_eq_true', Bool.not_eq_false', Int.not_lt, Int.not_le, ne_eq, Decidable.not_not] at hg1_5
    refine wl_off (d := 10) H10 rfl rfl rfl rfl rfl rfl fun a10 H18 => ?_
    clear H10 a9
    refine wl_off (d := 10) H18 rfl rfl rfl rfl rfl rfl fun a11 H19 => ?_
    clear H18 a10
    refine wl_off (d := 10) H19 rfl rfl rfl rfl rfl rfl fun a12 H20 => ?_
    clear H19 a11
    refine wl_off (d := 10) H20 rfl rfl rfl rfl rfl rfl fun a13 H21 => ?_
    clear H20 a12
    refine wl_off (d := 10) H21 rfl rfl rfl rfl rfl rfl fun a14 H22 => ?_
    clear H21 a13
    refine wl1 H22 (r_pick_f rfl rfl) rfl rfl rfl rfl fun a15 H23 => ?_
    clear H22 a14
    refine wl1 H23 (r_assign rfl) rfl rfl rfl rfl fun a16 H24 => ?_
    clear H23 a15
    refine wl_end ?_
    refine th_n ?_
    refine wpIn_ret ?_
    refine fin_r H24 (res1 rfl H24 rfl) ?_
    refine ⟨congrArg Value.bool ?_, hN.gr⟩
    first
      | (simp_all; done)
      | (rw [Bool.eq_iff_iff]; simp_all; done)
set_option maxRecDepth 100000 in
set_option maxHeartbeats 400000 in
theorem lprefix {A B : Option Addr} {c c2 : Nat} {l m : List (List Int)} {I : Im} {w : World} (hS : Sat I w) (hA : Els kB I A l) (hB : Els kB I B m) (hmc : m.length ≤ c2) :
    Ret Try.prog 35 [.slice A l.length c, .slice B m.length c2] w (fun v w' => v = .bool (decide (l.length ≤ m.length ∧ l = m.take l.length)) ∧ Gr w w') := by
  refine ret_of (N := 18) Try.func35 rfl rfl rfl fun a0 H0 => ?_
  have hN := New.refl hS
  simp only [argsEnv, Nat.zero_add, Nat.reduceAdd] at H0
  refine wpIn_seq ?_
  refine w_reg ?_
  refine wl1 H0 (r_assign rfl) rfl rfl rfl rfl fun a1 H1 => ?_
  clear H0 a0
  refine wl_end ?_
  refine th_n ?_
  refine wpIn_seq ?_
  refine w_reg ?_
  refine wl1 H1 (r_move rfl) rfl rfl rfl rfl fun a2 H2 => ?_
  clear H1 a1
  refine wl1 H2 (r_len Try.underlying24 rfl) rfl rfl rfl rfl fun a3 H3 => ?_
  clear H2 a2
  refine wl1 H3 (r_move rfl) rfl rfl rfl rfl fun a4 H4 => ?_
  clear H3 a3
  refine wl1 H4 (r_len Try.underlying24 rfl) rfl rfl rfl rfl fun a5 H5 => ?_
  clear H4 a4
  refine wl1 H5 (r_leq rfl rfl) rfl rfl rfl rfl fun a6 H6 => ?_
  clear H5 a5
  refine wl1 H6 (r_move rfl) rfl rfl rfl rfl fun a7 H7 => ?_
  clear H6 a6
  refine wl_split (t := 10) H7 rfl (fun hg1_5 H8 => ?_) (fun hg1_5 H8 => ?_)
  ·
    clear H7
    try simp only [decide_eq_true_eq, decide_eq_false_iff_not, Bool.or_eq_true, Bool.and_eq_true, Bool.or_eq_false_iff, Bool.and_eq_false_iff, Bool.not_eq_true', Bool.not_eq_false', Int.not_lt, Int.not_le, ne_eq, Decidable.not_not] at hg1_5
    refine wl_on (d := 10) H8 rfl rfl rfl ?_
    refine wl1 H8 (r_move rfl) rfl rfl rfl rfl fun a8 H9 => ?_
    clear H8 a7
    refine wl_on (d := 10) H9 rfl rfl rfl ?_
    refine wl1 H9 (r_move rfl) rfl rfl rfl rfl fun a9 H10 => ?_
    clear H9 a8
    refine wl_on (d := 10) H10 rfl rfl rfl ?_
    refine wl1 H10 (r_move rfl) rfl rfl rfl rfl fun a10 H11 => ?_
    clear H10 a9
    refine wl_on (d := 10) H11 rfl rfl rfl ?_
    refine wl1 H11 (r_len Try.underlying24 rfl) rfl rfl rfl rfl fun a11 H12 => ?_
    clear H11 a10
    refine wl_on (d := 10) H12 rfl rfl rfl ?_
    refine wl1 H12 (r_upto (hi := l.length) Try.underlying24 sz23 rfl rfl rfl (by omega)) rfl rfl rfl rfl fun a12 H13 => ?_
    clear H12 a11
    refine wl_on (d := 10) H13 rfl rfl rfl ?_
    refine wlc  H13 rfl rfl hb34 rfl (rsameall' (m := m.take l.length) hN.sat hA (hB.take _) rfl (by simp; omega)) fun v w1 hR a13 H14 => ?_
    clear H13 a12
    obtain ⟨rfl, gw1⟩ := hR
    have hN := hN.ofGr gw1
    refine wl1 H14 (r_pick_t rfl rfl) rfl rfl rfl rfl fun a14 H15 => ?_
    clear H14 a13
    refine wl1 H15 (r_assign rfl) rfl rfl rfl rfl fun a15 H16 => ?_
    clear H15 a14
    refine wl_end ?_
    refine th_n ?_
    refine wpIn_ret ?_
    refine fin_r H16 (res1 rfl H16 rfl) ?_
    refine ⟨congrArg Value.bool ?_, hN.gr⟩
    first
      | (simp_all; done)
      | (rw [Bool.eq_iff_iff]; simp_all; done)
      | (rw [decide_eq_decide]; exact ⟨fun h => ⟨by omega, h⟩, fun h => h.2⟩)
      | (symm; rw [decide_eq_false_iff_not]; omega)
  ·
    clear H7
    try simp only [decide_eq_true_eq, decide_eq_false_iff_not, Bool.or_eq_true, Bool.and_eq_true, Bool.or_eq_false_iff, Bool.and_eq_false_iff, Bool.not_eq_true', Bool.not_eq_false', Int.not_lt, Int.not_le, ne_eq, Decidable.not_not] at hg1_5
    refine wl_off (d := 10) H8 rfl rfl rfl rfl rfl rfl fun a8 H17 => ?_
    clear H8 a7
    refine wl_off (d := 10) H17 rfl rfl rfl rfl rfl rfl fun a9 H18 => ?_
    clear H17 a8
    refine wl_off (d := 10) H18 rfl rfl rfl rfl rfl rfl fun a10 H19 => ?_
    clear H18 a9
    refine wl_off (d := 10) H19 rfl rfl rfl rfl rfl rfl fun a11 H20 => ?_
    clear H19 a10
    refine wl_off (d := 10) H20 rfl rfl rfl rfl rfl rfl fun a12 H21 => ?_
    clear H20 a11
    refine wl_off (d := 10) H21 rfl rfl rfl rfl rfl rfl fun a13 H22 => ?_
    clear H21 a12
    refine wl1 H22 (r_pick_f rfl rfl) rfl rfl rfl rfl fun a14 H23 => ?_
    clear H22 a13
    refine wl1 H23 (r_assign rfl) rfl rfl rfl rfl fun a15 H24 => ?_
    clear H23 a14
    refine wl_end ?_
    refine th_n ?_
    refine wpIn_ret ?_
    refine fin_r H24 (res1 rfl H24 rfl) ?_
    refine ⟨congrArg Value.bool ?_, hN.gr⟩
    first
      | (simp_all; done)
      | (rw [Bool.eq_iff_iff]; simp_all; done)
      | (rw [decide_eq_decide]; exact ⟨fun h => ⟨by omega, h⟩, fun h => h.2⟩)
      | (symm; rw [decide_eq_false_iff_not]; omega)
end Go.Proofs.Ytjjpaghloaggeaa
