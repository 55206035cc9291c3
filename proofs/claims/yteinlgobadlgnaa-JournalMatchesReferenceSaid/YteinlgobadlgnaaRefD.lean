/- The reference of the journal: reading. -/
import Derived.Test.YteinlgobadlgnaaRefC
set_option linter.unusedVariables false
set_option linter.unusedSimpArgs false
namespace Go.Proofs.Yteinlgobadlgnaa
open Go.RowKit


def RReadPost (I : Im) (w : World) (l : List Int) (v : Value) (w' : World) : Prop :=
  ∃ J, New I w J w' ∧ ∃ A1 c1 A2 c2, v = .agg #[.slice A1 (jall l 0).recs.length c1, .slice A2 (l.length - (jall l 0).off) c2, .int .i64 (if (jall l 0).off < l.length then 60 else 0), .int .i64 (((jall l 0).off : Nat) : Int), .int .u64 (jall l 0).key] ∧
    (jall l 0).recs.length ≤ c1 ∧ Els (kSl (kInt .i64)) J A1 (jall l 0).recs ∧ l.length - (jall l 0).off ≤ c2 ∧ Els (kInt .u8) J A2 (l.drop (jall l 0).off)
/-- What lies in the reader's next. -/
structure RN where
  v0 : Value
  v1 : Value
  v2 : Value
  ok : Bool
structure NX (J : Im) (l : List Int) (off : Nat) (key : Int) (x : RN) : Prop where
  o0 : x.v0.oneCell' = true
  o1 : x.v1.oneCell' = true
  o2 : x.v2.oneCell' = true
  no : x.ok = false → ¬ Jok (l.drop off) key
  yes : x.ok = true → Jok (l.drop off) key ∧ ∃ A c, jn (l.drop off) ≤ c ∧ Els (kInt .i64) J A (recAt (l.drop off) (jn (l.drop off))) ∧ x.v0 = .slice A (recAt (l.drop off) (jn (l.drop off))).length c ∧ x.v1 = .int .u64 (wordAt (l.drop off) (16 + 8 * jn (l.drop off))) ∧ x.v2 = .int .i64 ((off + (24 + 8 * jn (l.drop off)) : Nat) : Int)
theorem NX.up {J K : Im} {l : List Int} {off : Nat} {key : Int} {x : RN} (h : NX J l off key x) (hle : Im.le J K) : NX K l off key x :=
  ⟨h.o0, h.o1, h.o2, h.no, fun e => by obtain ⟨h1, A, c, h2, h3, h4⟩ := h.yes e; exact ⟨h1, A, c, h2, h3.up hle, h4⟩⟩
theorem rnext' {A : Option Addr} {l : List Int} {c at_ : Nat} {key : Int} {I : Im} {w : World} (hS : Sat I w) (hA : Els (kInt .u8) I A l) (hat : at_ ≤ l.length) (hlc : l.length ≤ c) (hmax : l.length ≤ 16777216) :
    Ret Try.prog 26 [.slice A l.length c, .int .i64 (at_ : Int), .int .u64 key] w (fun v w' => ∃ J, New I w J w' ∧ ∃ x, v = .agg #[x.v0, x.v1, x.v2, .bool x.ok] ∧ NX J l at_ key x) := by
  refine (rnext hS hA hat hlc hmax).mono ?_
  rintro v w' ⟨J, hN, ⟨hj, rfl⟩ | ⟨hj, A, c, h1, h2, rfl⟩⟩
  · exact ⟨J, hN, ⟨_, _, _, false⟩, rfl, rfl, rfl, rfl, fun _ => hj, fun e => by cases e⟩
  · exact ⟨J, hN, ⟨_, _, _, true⟩, rfl, rfl, rfl, rfl, fun e => (by cases e), fun _ => ⟨hj, A, c, h1, h2, rfl, rfl, rfl⟩⟩
structure RI where
  rs : List (List Int)
  off : Nat
  key : Int
  vr : Value
  nx : RN

set_option maxRecDepth 100000 in
set_option maxHeartbeats 400000 in
theorem rread {A : Option Addr} {l : List Int} {c : Nat} {I : Im} {w : World} (hS : Sat I w) (hA : Els (kInt .u8) I A l) (hlc : l.length ≤ c) (hmax : l.length ≤ 16777216) :
    Ret Try.prog 13 [.slice A l.length c] w (RReadPost I w l) := by
  refine ret_of (N := 40) Try.func13 rfl rfl rfl fun a0 H0 => ?_
  have hN := New.refl hS
  simp only [argsEnv, Nat.zero_add, Nat.reduceAdd] at H0
  refine wpIn_seq ?_
  refine w_reg ?_
  refine s_alloc H0 zv34 rfl hN fun w1 b2 hN gw1 hB2 hgeb2 heb2 a1 H1 => ?_
  clear H0 a0
  replace hB2 : Box _ _ _ [.slice none 0 0, .slice none 0 0, .int .i64 0, .int .i64 0, .int .u64 0] 34 := hB2
  refine wl_end ?_
  refine th_n ?_
  refine wpIn_seq ?_
  refine w_reg ?_
  refine wl1 H1 (r_build (v := .agg #[.slice none 0 0, .slice none 0 0, .int .i64 0, .int .i64 0, .int .u64 0]) rfl (fun w => by kernel_rfl)) rfl rfl rfl rfl fun a2 H2 => ?_
  clear H1 a1
  refine s_alloc H2 zv34 rfl hN fun w2 b3 hN gw2 hB3 hgeb3 heb3 a3 H3 => ?_
  clear H2 a2
  replace hB3 : Box _ _ _ [.slice none 0 0, .slice none 0 0, .int .i64 0, .int .i64 0, .int .u64 0] 34 := hB3
  have hne_hB2_b3 := hB2.lt
  rw [← heb3] at hne_hB2_b3
  replace hB2 := hB2.gr gw2
  refine s_storeA (vs := [_, _, _, _, _]) H3 sz34 (by simp) (by simp [Value.oneCell']) rfl rfl hN hB3 (by simp) hgeb3 fun w3 hN hB3 ew3 H4 => ?_
  clear H3
  replace hB2 := hB2.otherE ew3 (by omega)
  simp only [Nat.zero_add, Nat.add_zero, Nat.reduceAdd, Nat.reduceMul, List.set_cons_zero, List.set_cons_succ, spliceL] at hB3
  clear ew3
  refine wl_end ?_
  refine th_n ?_
  refine wpIn_seq ?_
  refine w_reg ?_
  refine wl1 H4 (r_move rfl) rfl rfl rfl rfl fun a4 H5 => ?_
  clear H4 a3
  refine wlc  H5 rfl rfl hb26 rfl (rnext' (at_ := 0) hN.sat hA (Nat.zero_le _) hlc hmax) fun v w4 hR a5 H6 => ?_
  clear H5 a4
  obtain ⟨J4, nw4, ⟨x0, rfl, hX⟩⟩ := hR
  replace hA := hA.up nw4.le
  replace hB2 := hB2.next nw4
  replace hB3 := hB3.next nw4
  have hN := hN.trans nw4
  refine s_alloc H6 zv55 rfl hN fun w5 b4 hN gw5 hB4 hgeb4 heb4 a6 H7 => ?_
  clear H6 a5
  replace hB4 : Box _ _ _ [.slice none 0 0, .int .u64 0, .int .i64 0, .bool false] 55 := hB4
  have hne_hB2_b4 := hB2.lt
  rw [← heb4] at hne_hB2_b4
  have hne_hB3_b4 := hB3.lt
  rw [← heb4] at hne_hB3_b4
  replace hB2 := hB2.gr gw5
  replace hB3 := hB3.gr gw5
  refine s_storeA (vs := [_, _, _, _]) H7 sz55 (by simp) (by simp [hX.o0, hX.o1, hX.o2]; rfl) rfl rfl hN hB4 (by simp) hgeb4 fun w6 hN hB4 ew6 H8 => ?_
  clear H7
  replace hB2 := hB2.otherE ew6 (by omega)
  replace hB3 := hB3.otherE ew6 (by omega)
  simp only [Nat.zero_add, Nat.add_zero, Nat.reduceAdd, Nat.reduceMul, List.set_cons_zero, List.set_cons_succ, spliceL] at hB4
  clear ew6
  obtain ⟨B, hBw⟩ : ∃ B, B = (w6).heap.size := ⟨_, rfl⟩
  have hlt4 := hB4.lt
  refine wl_end ?_
  refine th_n ?_
  refine wpIn_seq ?_
  refine wpIn_block ?_
  refine w_loop (ι := (RI) × Im) (fun xJ => (fun x => []) xJ.1) (fun xJ W => Im.le J4 xJ.2 ∧ New I w xJ.2 W ∧ (fun x (J : Im) => Box J W b4 [x.nx.v0, x.nx.v1, x.nx.v2, .bool x.nx.ok] 55 ∧ Box J W b3 [x.vr, .slice none 0 0, .int .i64 0, .int .i64 ((x.off : Nat) : Int), .int .u64 x.key] 34 ∧ Box J W b2 [.slice none 0 0, .slice none 0 0, .int .i64 0, .int .i64 0, .int .u64 0] 34 ∧ B ≤ W.heap.size ∧ OwnK (kSl (kInt .i64)) J W B 29 x.vr x.rs ∧ x.off ≤ l.length ∧ 24 * x.rs.length ≤ x.off ∧ jall l 0 = ⟨x.rs ++ (jall (l.drop x.off) x.key).recs, x.off + (jall (l.drop x.off) x.key).off, (jall (l.drop x.off) x.key).key⟩ ∧ NX J l x.off x.key x.nx) xJ.1 xJ.2) (fun xJ => (fun x => l.length - x.off) xJ.1) (l0 := [(0, _), (2, _), (3, _), (4, _)]) (⟨[], 0, 0, _, x0⟩, J4) H8 ⟨rfl, rfl, rfl, rfl, trivial⟩ ⟨Im.le.refl _, hN, hB4, hB3, hB2, (by show B ≤ _; omega), OwnK.nil _ _ _ _ _, Nat.zero_le _, Nat.le_refl _, by simp, hX⟩ ?_
  rintro ⟨⟨rs, off, key, vr, nx⟩, J7⟩ a7 w7 H9 ⟨hleJ1, hN, hB4, hB3, hB2, hszB, hO, ho, hr, hj, hX⟩
  clear H8 a6
  simp only [List.cons_append, List.nil_append] at H9
  try dsimp only at hleJ1
  try dsimp only at hN
  replace hA := hA.up hleJ1
  simp only at hB4 hB3 hO ho hr hj hX H9
  try dsimp only at hB2
  try dsimp only at hB3
  try dsimp only at hB4
  try dsimp only at hO
  try dsimp only at hX
  try dsimp only at hj
  try dsimp only at ho
  try dsimp only at hr
  try dsimp only at hszB
  refine wpIn_seq ?_
  refine wpIn_seq ?_
  refine w_reg ?_
  refine wl1 H9 (r_fld fld55_3 rfl) rfl rfl rfl rfl fun a8 H10 => ?_
  clear H9 a7
  refine wl1 H10 (r_load sc4 rfl (hB4.cell rfl)) rfl rfl rfl rfl fun a9 H11 => ?_
  clear H10 a8
  refine wl_end ?_
  refine th_n ?_
  first | refine w_if H11 rfl (fun hc9 => ?_) (fun hc9 => ?_) | refine w_cond H11 rfl (fun hc9 => ?_) (fun hc9 => ?_)
  ·
    try simp only [decide_eq_true_eq, decide_eq_false_iff_not, Bool.or_eq_true, Bool.and_eq_true, Bool.or_eq_false_iff, Bool.and_eq_false_iff, Bool.not_eq_true', Bool.not_eq_false', Int.not_lt, Int.not_le, ne_eq, Decidable.not_not] at hc9
    obtain ⟨hJ, AX, cX, hcX, hEX, eX0, eX1, eX2⟩ := hX.yes hc9
    have hJl := hJ.len
    have hdl : (l.drop off).length = l.length - off := by simp
    refine wpIn_skip ?_
    refine th_n ?_
    refine wpIn_block ?_
    refine wpIn_seq ?_
    refine w_reg ?_
    refine wl1 H11 (r_fld fld34_0 rfl) rfl rfl rfl rfl fun a10 H12 => ?_
    clear H11 a9
    refine wl1 H12 (r_load sc23 rfl (hB3.cell rfl)) rfl rfl rfl rfl fun a11 H13 => ?_
    clear H12 a10
    refine wl1 H13 (r_fld fld55_0 rfl) rfl rfl rfl rfl fun a12 H14 => ?_
    clear H13 a11
    refine wl1 H14 (r_load sc29 rfl (hB4.cell rfl)) rfl rfl rfl rfl fun a13 H15 => ?_
    clear H14 a12
    rw [eX0] at H15
    refine s_lit1 (cs := [_]) H15 Try.underlying23 sz29 zv29 rfl rfl rfl (by simp; rfl) rfl hN fun w8 l14 K8 hKl14 hlel14 hN nw8 hgel14 a14 H16 => ?_
    clear H15 a13
    replace hA := hA.up nw8.le
    replace hX := hX.up nw8.le
    replace hB2 := hB2.next nw8
    replace hB3 := hB3.next nw8
    replace hB4 := hB4.next nw8
    replace hO := hO.next nw8
    replace hleJ1 := hleJ1.trans nw8.le
    replace hszB := Nat.le_trans hszB nw8.gr.size
    replace hEX := hEX.up nw8.le
    have hEl : Els (kSl (kInt .i64)) K8 (some ⟨l14, 0, none⟩) [recAt (l.drop off) (jn (l.drop off))] := Els.one hKl14 ⟨_, _, rfl, by rw [recAt_length]; exact hcX, hEX⟩
    refine s_appO (d := kSl (kInt .i64)) (B := B) H16 rfl rfl Try.underlying23 nf29 rfl (by decide) (by decide) rfl hN hO hEl rfl (by omega) hszB (by omega) fun vw9 w9 hO kw9 hN a15 H17 => ?_
    clear H16 a14
    replace hB2 := hB2.keep kw9 (by omega)
    replace hB3 := hB3.keep kw9 (by omega)
    replace hB4 := hB4.keep kw9 (by omega)
    replace hszB := Nat.le_trans hszB kw9.size
    refine wl1 H17 (r_fld fld34_0 rfl) rfl rfl rfl rfl fun a16 H18 => ?_
    clear H17 a15
    refine s_store H18 sz23 (Apx.one (.inl hO)) rfl rfl hN hB3 (by simp) hgeb3 fun w10 hN hB3 ew10 H19 => ?_
    clear H18
    replace hB2 := hB2.otherE ew10 (by omega)
    replace hB4 := hB4.otherE ew10 (by omega)
    replace hO := hO.otherE ew10 (by omega)
    replace hszB := sz_setB ew10 hszB
    simp only [Nat.zero_add, Nat.add_zero, Nat.reduceAdd, Nat.reduceMul, List.set_cons_zero, List.set_cons_succ, spliceL] at hB3
    clear ew10
    refine wl_end ?_
    refine th_n ?_
    refine wpIn_seq ?_
    refine w_reg ?_
    refine wl1 H19 (r_fld fld55_2 rfl) rfl rfl rfl rfl fun a17 H20 => ?_
    clear H19 a16
    refine wl1 H20 (r_load sc3 rfl (hB4.cell rfl)) rfl rfl rfl rfl fun a18 H21 => ?_
    clear H20 a17
    rw [eX2] at H21
    refine wl1 H21 (r_fld fld34_3 rfl) rfl rfl rfl rfl fun a19 H22 => ?_
    clear H21 a18
    refine s_store H22 sz3 rfl rfl rfl hN hB3 (by simp) hgeb3 fun w11 hN hB3 ew11 H23 => ?_
    clear H22
    replace hB2 := hB2.otherE ew11 (by omega)
    replace hB4 := hB4.otherE ew11 (by omega)
    replace hO := hO.otherE ew11 (by omega)
    replace hszB := sz_setB ew11 hszB
    simp only [Nat.zero_add, Nat.add_zero, Nat.reduceAdd, Nat.reduceMul, List.set_cons_zero, List.set_cons_succ, spliceL] at hB3
    clear ew11
    refine wl_end ?_
    refine th_n ?_
    refine wpIn_seq ?_
    refine w_reg ?_
    refine wl1 H23 (r_fld fld55_1 rfl) rfl rfl rfl rfl fun a20 H24 => ?_
    clear H23 a19
    refine wl1 H24 (r_load sc32 rfl (hB4.cell rfl)) rfl rfl rfl rfl fun a21 H25 => ?_
    clear H24 a20
    rw [eX1] at H25
    refine wl1 H25 (r_fld fld34_4 rfl) rfl rfl rfl rfl fun a22 H26 => ?_
    clear H25 a21
    refine s_store H26 sz32 rfl rfl rfl hN hB3 (by simp) hgeb3 fun w12 hN hB3 ew12 H27 => ?_
    clear H26
    replace hB2 := hB2.otherE ew12 (by omega)
    replace hB4 := hB4.otherE ew12 (by omega)
    replace hO := hO.otherE ew12 (by omega)
    replace hszB := sz_setB ew12 hszB
    simp only [Nat.zero_add, Nat.add_zero, Nat.reduceAdd, Nat.reduceMul, List.set_cons_zero, List.set_cons_succ, spliceL] at hB3
    clear ew12
    refine wl_end ?_
    refine th_n ?_
    refine w_reg ?_
    refine wl1 H27 (r_move rfl) rfl rfl rfl rfl fun a23 H28 => ?_
    clear H27 a22
    refine wl1 H28 (r_fld fld34_3 rfl) rfl rfl rfl rfl fun a24 H29 => ?_
    clear H28 a23
    refine wl1 H29 (r_load sc3 rfl (hB3.cell rfl)) rfl rfl rfl rfl fun a25 H30 => ?_
    clear H29 a24
    refine wl1 H30 (r_fld fld34_4 rfl) rfl rfl rfl rfl fun a26 H31 => ?_
    clear H30 a25
    refine wl1 H31 (r_load sc32 rfl (hB3.cell rfl)) rfl rfl rfl rfl fun a27 H32 => ?_
    clear H31 a26
    refine wlc  H32 rfl rfl hb26 rfl (rnext' hN.sat hA (by omega) hlc hmax) fun v w13 hR a28 H33 => ?_
    clear H32 a27
    obtain ⟨J13, nw13, ⟨x1, rfl, hX2⟩⟩ := hR
    replace hA := hA.up nw13.le
    replace hB2 := hB2.next nw13
    replace hB3 := hB3.next nw13
    replace hB4 := hB4.next nw13
    replace hO := hO.next nw13
    replace hleJ1 := hleJ1.trans nw13.le
    replace hszB := Nat.le_trans hszB nw13.gr.size
    have hN := hN.trans nw13
    refine s_storeA (vs := [_, _, _, _]) H33 sz55 (by simp) (by simp [hX2.o0, hX2.o1, hX2.o2]; rfl) rfl rfl hN hB4 (by simp) hgeb4 fun w14 hN hB4 ew14 H34 => ?_
    clear H33
    replace hB2 := hB2.otherE ew14 (by omega)
    replace hB3 := hB3.otherE ew14 (by omega)
    replace hO := hO.otherE ew14 (by omega)
    replace hszB := sz_setB ew14 hszB
    simp only [Nat.zero_add, Nat.add_zero, Nat.reduceAdd, Nat.reduceMul, List.set_cons_zero, List.set_cons_succ, spliceL] at hB4
    clear ew14
    refine wl_end ?_
    refine bl_n ?_
    exact th_n ⟨(⟨rs ++ [recAt (l.drop off) (jn (l.drop off))], off + (24 + 8 * jn (l.drop off)), wordAt (l.drop off) (16 + 8 * jn (l.drop off)), _, x1⟩, J13), (by show l.length - (off + (24 + 8 * jn (l.drop off))) < l.length - off; omega), H34.sub ⟨rfl, rfl, rfl, rfl, trivial⟩, hleJ1, hN, hB4, hB3, hB2, hszB, hO, by show off + (24 + 8 * jn (l.drop off)) ≤ l.length; omega, by show 24 * (rs ++ [recAt (l.drop off) (jn (l.drop off))]).length ≤ _; simp; omega, by rw [hj, jall_yes hJ]; simp only [List.drop_drop, List.append_assoc, List.singleton_append, Nat.add_assoc], hX2⟩
  ·
    try simp only [decide_eq_true_eq, decide_eq_false_iff_not, Bool.or_eq_true, Bool.and_eq_true, Bool.or_eq_false_iff, Bool.and_eq_false_iff, Bool.not_eq_true', Bool.not_eq_false', Int.not_lt, Int.not_le, ne_eq, Decidable.not_not] at hc9
    have hj0 : jall l 0 = ⟨rs, off, key⟩ := by rw [hj, jall_no (hX.no (by simpa using hc9))]; simp
    refine wpIn_exit ?_
    refine th_x ?_
    refine th_x ?_
    refine bl_hit ?_
    refine th_n ?_
    refine wpIn_seq ?_
    refine w_reg ?_
    refine wl1 H11 (r_move rfl) rfl rfl rfl rfl fun a10 H35 => ?_
    clear H11 a9
    refine wl1 H35 (r_fld fld34_3 rfl) rfl rfl rfl rfl fun a11 H36 => ?_
    clear H35 a10
    refine wl1 H36 (r_load sc3 rfl (hB3.cell rfl)) rfl rfl rfl rfl fun a12 H37 => ?_
    clear H36 a11
    refine wl1 H37 (r_from (lo := off) Try.underlying22 sz5 rfl rfl rfl (by omega) hlc) rfl rfl rfl rfl fun a13 H38 => ?_
    clear H37 a12
    refine wl1 H38 (r_fld fld34_1 rfl) rfl rfl rfl rfl fun a14 H39 => ?_
    clear H38 a13
    refine s_store H39 sz22 rfl rfl rfl hN hB3 (by simp) hgeb3 fun w15 hN hB3 ew15 H40 => ?_
    clear H39
    replace hB2 := hB2.otherE ew15 (by omega)
    replace hB4 := hB4.otherE ew15 (by omega)
    replace hO := hO.otherE ew15 (by omega)
    replace hszB := sz_setB ew15 hszB
    simp only [Nat.zero_add, Nat.add_zero, Nat.reduceAdd, Nat.reduceMul, List.set_cons_zero, List.set_cons_succ, spliceL] at hB3
    clear ew15
    refine wl_end ?_
    refine th_n ?_
    refine wpIn_seq ?_
    refine wpIn_seq ?_
    refine w_reg ?_
    refine wl1 H40 (r_fld fld34_1 rfl) rfl rfl rfl rfl fun a15 H41 => ?_
    clear H40 a14
    refine wl1 H41 (r_load sc22 rfl (hB3.cell rfl)) rfl rfl rfl rfl fun a16 H42 => ?_
    clear H41 a15
    refine wl1 H42 (r_len Try.underlying22 rfl) rfl rfl rfl rfl fun a17 H43 => ?_
    clear H42 a16
    refine wl1 H43 (r_gtr rfl rfl) rfl rfl rfl rfl fun a18 H44 => ?_
    clear H43 a17
    refine wl_end ?_
    refine th_n ?_
    first | refine w_if H44 rfl (fun hc37 => ?_) (fun hc37 => ?_) | refine w_cond H44 rfl (fun hc37 => ?_) (fun hc37 => ?_)
    ·
      try simp only [decide_eq_true_eq, decide_eq_false_iff_not, Bool.or_eq_true, Bool.and_eq_true, Bool.or_eq_false_iff, Bool.and_eq_false_iff, Bool.not_eq_true', Bool.not_eq_false', Int.not_lt, Int.not_le, ne_eq, Decidable.not_not] at hc37
      refine w_reg ?_
      refine wl1 H44 (r_fld fld34_2 rfl) rfl rfl rfl rfl fun a19 H45 => ?_
      clear H44 a18
      refine s_store H45 sz31 rfl rfl rfl hN hB3 (by simp) hgeb3 fun w16 hN hB3 ew16 H46 => ?_
      clear H45
      replace hB2 := hB2.otherE ew16 (by omega)
      replace hB4 := hB4.otherE ew16 (by omega)
      replace hO := hO.otherE ew16 (by omega)
      replace hszB := sz_setB ew16 hszB
      simp only [Nat.zero_add, Nat.add_zero, Nat.reduceAdd, Nat.reduceMul, List.set_cons_zero, List.set_cons_succ, spliceL] at hB3
      clear ew16
      refine wl_end ?_
      refine th_n ?_
      refine wpIn_seq ?_
      refine w_reg ?_
      refine wl1 H46 (r_loadA (cs := [_, _, _, _, _]) ag34 rfl hB3.agg) rfl rfl rfl rfl fun a20 H47 => ?_
      clear H46 a19
      refine s_storeA (vs := [_, _, _, _, _]) H47 sz34 (by simp) (by have h1 := Apx.one (.inl hO); intro v hv; simp only [List.mem_cons, List.mem_nil_iff, or_false] at hv; rcases hv with rfl | rfl | rfl | rfl | rfl <;> first | exact h1 | rfl) rfl rfl hN hB2 (by simp) hgeb2 fun w17 hN hB2 ew17 H48 => ?_
      clear H47
      replace hB3 := hB3.otherE ew17 (by omega)
      replace hB4 := hB4.otherE ew17 (by omega)
      replace hO := hO.otherE ew17 (by omega)
      replace hszB := sz_setB ew17 hszB
      simp only [Nat.zero_add, Nat.add_zero, Nat.reduceAdd, Nat.reduceMul, List.set_cons_zero, List.set_cons_succ, spliceL] at hB2
      clear ew17
      refine wl_end ?_
      refine th_n ?_
      refine wpIn_ret ?_
      refine fin_r H48 (resC rfl H48 rfl hB2 ag34) ?_
      obtain ⟨J9, A9, c9, hN9, hle9, _, rfl, hcc9, hE9⟩ := hO.freeze hN (by omega)
      exact ⟨J9, hN9, A9, c9, offS A off 1 c, c - off, by rw [hj0]; simp only []; rw [if_pos (by omega)], by rw [hj0]; exact hcc9, by rw [hj0]; exact hE9, by rw [hj0]; (show l.length - off ≤ c - off); omega, by rw [hj0]; exact (hA.up hle9).off hlc⟩
    ·
      try simp only [decide_eq_true_eq, decide_eq_false_iff_not, Bool.or_eq_true, Bool.and_eq_true, Bool.or_eq_false_iff, Bool.and_eq_false_iff, Bool.not_eq_true', Bool.not_eq_false', Int.not_lt, Int.not_le, ne_eq, Decidable.not_not] at hc37
      refine wpIn_skip ?_
      refine th_n ?_
      refine wpIn_seq ?_
      refine w_reg ?_
      refine wl1 H44 (r_loadA (cs := [_, _, _, _, _]) ag34 rfl hB3.agg) rfl rfl rfl rfl fun a19 H49 => ?_
      clear H44 a18
      refine s_storeA (vs := [_, _, _, _, _]) H49 sz34 (by simp) (by have h1 := Apx.one (.inl hO); intro v hv; simp only [List.mem_cons, List.mem_nil_iff, or_false] at hv; rcases hv with rfl | rfl | rfl | rfl | rfl <;> first | exact h1 | rfl) rfl rfl hN hB2 (by simp) hgeb2 fun w18 hN hB2 ew18 H50 => ?_
      clear H49
      replace hB3 := hB3.otherE ew18 (by omega)
      replace hB4 := hB4.otherE ew18 (by omega)
      replace hO := hO.otherE ew18 (by omega)
      replace hszB := sz_setB ew18 hszB
      simp only [Nat.zero_add, Nat.add_zero, Nat.reduceAdd, Nat.reduceMul, List.set_cons_zero, List.set_cons_succ, spliceL] at hB2
      clear ew18
      refine wl_end ?_
      refine th_n ?_
      refine wpIn_ret ?_
      refine fin_r H50 (resC rfl H50 rfl hB2 ag34) ?_
      obtain ⟨J9, A9, c9, hN9, hle9, _, rfl, hcc9, hE9⟩ := hO.freeze hN (by omega)
      exact ⟨J9, hN9, A9, c9, offS A off 1 c, c - off, by rw [hj0]; simp only []; rw [if_neg (by omega)], by rw [hj0]; exact hcc9, by rw [hj0]; exact hE9, by rw [hj0]; (show l.length - off ≤ c - off); omega, by rw [hj0]; exact (hA.up hle9).off hlc⟩
end Go.Proofs.Yteinlgobadlgnaa
