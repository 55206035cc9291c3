/- Digests of bytes. -/
import Derived.Test.YtlikefnngkokhaaBr01
import Derived.Test.YtlikefnngkokhaaLevel
import Derived.Test.YtlikefnngkokhaaTy
set_option linter.unusedVariables false
set_option linter.unusedSimpArgs false
namespace Go.Proofs.Ytlikefnngkokhaa
open Go.RowKit


theorem Els.away {α : Type} {d : Kd α} {J : Im} {b : Nat} {A : Option Addr} {xs : List α} (h : Els d J A xs) (hb : J b = none) (hx : ∀ I vs x, d.rep I vs x → 0 < vs.length) : ∀ ad, A = some ad → 0 < xs.length → ad.block ≠ b := by
  intro ad e hn heq
  obtain ⟨b', o, e', hc⟩ := h.2 hn
  rw [e] at e'
  injection e' with e'
  subst e'
  simp only at heq
  subst heq
  obtain ⟨vs, hr, hcell⟩ := hc 0 (xs[0]'hn) (List.getElem?_eq_getElem hn)
  have h1 := hx _ _ _ hr
  have := hcell 0 _ (List.getElem?_eq_getElem h1)
  simp [Im.cell?, hb] at this
theorem add_ret {A : Option Addr} {l : List Int} {c b n : Nat} {h : Int} {I : Im} {w : World} (hS : Sat I w) (hb : Box I w b [.int .u64 h] 62) (hA : Els (kInt .u64) I A l) (hn : l.length = n) (hl : 0 < n) :
    Ret Try.prog 32 [.pointer (some ⟨b, 0, none⟩), .slice A n c] w (fun v w' => v = .tuple #[] ∧ NewS (fun k => k = b) I w I w' ∧ Box I w' b [.int .u64 (dfold h l)] 62) := by
  subst hn
  refine Calls.mono (add_any b h A l c w hb.blk (fun ad e => hA.away hb.im (fun _ _ _ h => by rw [h.1]; simp) ad e hl) (hA.rd hS)) fun e w' ⟨he, hp⟩ => ⟨_, he, rfl, ?_, ⟨hp.at_, hb.im⟩⟩
  have hm : Mod (fun k => k = b) w w' := ⟨hp.g.os, hp.g.tape, hp.g.output, hp.g.size, fun k hk hne => hp.g.block k hk (fun e => hne (by injection e with e))⟩
  exact ⟨Im.le.refl _, hm.sat hS (fun k hk => by rw [hk]; exact hb.im), hm, fun _ _ => rfl⟩
theorem InK_of_U {x : Int} (h : U x) : InK .u64 x := by simp only [InK, U] at *; omega
/-- The reader's state. -/
structure GS where
  ws : List Int
  cur : List Int
  A : Option Addr
  c : Nat
  J : Im

set_option maxRecDepth 100000 in
set_option maxHeartbeats 400000 in
theorem dgroups_ret {A : Option Addr} {c bc L : Nat} {l : List Int} {Inv : List Int → Im → World → Prop} {I : Im} {w : World} (hS : Sat I w) (hbc : Box I w bc [.slice A l.length c] 48) (hA : Els (kInt .u8) I A l) (hlc : l.length ≤ c)
    (hstep : ∀ ws J W J' W', Inv ws J W → NewS (fun k => k = bc) J W J' W' → Inv ws J' W')
    (hround : ∀ ws x J W cs, Inv ws J W → Sat J W → Box J W bc cs 48 → InK .u64 x → YRet Try.prog L [.int .u64 x] W (fun v W' => v = .bool true ∧ ∃ J', Im.le J J' ∧ Sat J' W' ∧ Box J' W' bc cs 48 ∧ Inv (ws ++ [x]) J' W'))
    (h0 : Inv [] I w) :
    Ret Try.prog 37 [yv L, .pointer (some ⟨bc, 0, none⟩)] w (fun v w' => ∃ J, Im.le I J ∧ Sat J w' ∧ Inv (dgroups l) J w') := by
  refine ret_of (N := 37) Try.func37 rfl rfl rfl fun a0 H0 => ?_
  have hN := New.refl hS
  simp only [argsEnv, Nat.zero_add, Nat.reduceAdd] at H0
  refine wpIn_block ?_
  refine w_loop (ι := GS) (fun x => []) (fun x W => (Sat x.J W ∧ Im.le I x.J ∧ Inv x.ws x.J W ∧ Box x.J W bc [.slice x.A x.cur.length x.c] 48 ∧ Els (kInt .u8) x.J x.A x.cur ∧ x.cur.length ≤ x.c ∧ dgroups l = x.ws ++ dgroups x.cur)) (fun x => x.cur.length) (l0 := [(0, _), (1, _)]) ⟨[], l, A, c, I⟩ H0 ⟨rfl, rfl, trivial⟩ ⟨hS, Im.le.refl _, h0, hbc, hA, hlc, by simp⟩ ?_
  rintro ⟨ws, cur, A1, c1, J1⟩ a1 w1 H1 ⟨hS1, hle1, hI1, hb1, hE1, hc1, hj1⟩
  clear H0 a0
  simp only [List.cons_append, List.nil_append] at H1
  simp only at hS1 hle1 hI1 hb1 hE1 hc1 hj1 H1
  have hN := New.refl hS1
  refine wpIn_seq ?_
  refine wpIn_seq ?_
  refine w_reg ?_
  refine wl1 H1 (r_load sc48 rfl (hb1.cell rfl)) rfl rfl rfl rfl fun a2 H2 => ?_
  clear H1 a1
  refine wl1 H2 (r_len Try.underlying48 rfl) rfl rfl rfl rfl fun a3 H3 => ?_
  clear H2 a2
  refine wl1 H3 (r_gtr rfl rfl) rfl rfl rfl rfl fun a4 H4 => ?_
  clear H3 a3
  refine wl_end ?_
  refine th_n ?_
  first | refine w_if H4 rfl (fun hc9 => ?_) (fun hc9 => ?_) | refine w_cond H4 rfl (fun hc9 => ?_) (fun hc9 => ?_)
  ·
    try simp only [decide_eq_true_eq, decide_eq_false_iff_not, Bool.or_eq_true, Bool.and_eq_true, Bool.or_eq_false_iff, Bool.and_eq_false_iff, Bool.not_eq_true', Bool.not_eq_false', Int.not_lt, Int.not_le, ne_eq, Decidable.not_not] at hc9
    obtain ⟨bA, oA, rfl⟩ := hE1.form (by omega)
    have hIB := hE1.inK
    refine wpIn_skip ?_
    refine th_n ?_
    refine wpIn_block ?_
    refine wpIn_seq ?_
    refine w_reg ?_
    refine wl1 H4 (r_load sc48 rfl (hb1.cell rfl)) rfl rfl rfl rfl fun a5 H5 => ?_
    clear H4 a4
    refine wl1 H5 (r_len Try.underlying48 rfl) rfl rfl rfl rfl fun a6 H6 => ?_
    clear H5 a5
    refine wl1 H6 (r_min rfl rfl) rfl rfl rfl rfl fun a7 H7 => ?_
    clear H6 a6
    obtain ⟨n, hn⟩ : ∃ n : Nat, n = min 8 cur.length := ⟨_, rfl⟩
    rw [show min (8 : Int) (cur.length : Int) = (n : Int) by omega] at H7
    have htk : cur.take n = cur.take 8 := by rw [hn]; rcases Nat.le_total 8 cur.length with h | h
                                             · rw [Nat.min_eq_left h]
                                             · rw [Nat.min_eq_right h, List.take_of_length_le (Nat.le_refl _), List.take_of_length_le h]
    have hdk : cur.drop n = cur.drop 8 := by rw [hn]; rcases Nat.le_total 8 cur.length with h | h
                                             · rw [Nat.min_eq_left h]
                                             · rw [Nat.min_eq_right h, List.drop_of_length_le (Nat.le_refl _), List.drop_of_length_le h]
    refine wl1 H7 (r_assign rfl) rfl rfl rfl rfl fun a8 H8 => ?_
    clear H7 a7
    refine wl_end ?_
    refine th_n ?_
    refine wpIn_seq ?_
    refine w_reg ?_
    refine wl1 H8 (r_assign rfl) rfl rfl rfl rfl fun a9 H9 => ?_
    clear H8 a8
    refine wl_end ?_
    refine th_n ?_
    refine wpIn_seq ?_
    refine wpIn_seq ?_
    refine w_reg ?_
    refine wl1 H9 (r_load sc48 rfl (hb1.cell rfl)) rfl rfl rfl rfl fun a10 H10 => ?_
    clear H9 a9
    refine wl1 H10 (r_move rfl) rfl rfl rfl rfl fun a11 H11 => ?_
    clear H10 a10
    refine wl1 H11 (r_upto (hi := n) Try.underlying48 sz5 rfl rfl rfl (by omega)) rfl rfl rfl rfl fun a12 H12 => ?_
    clear H11 a11
    refine wl1 H12 (r_len Try.underlying48 rfl) rfl rfl rfl rfl fun a13 H13 => ?_
    clear H12 a12
    refine wl1 H13 (r_move rfl) rfl rfl rfl rfl fun a14 H14 => ?_
    clear H13 a13
    have hSk := hS1
    refine wl_end ?_
    refine th_n ?_
    refine wpIn_block ?_
    refine w_loop (ι := Nat) (fun k => [(17, .int .i64 (k : Int)), (4, .int .u64 (leSum (cur.take k)))]) (fun k W => (k ≤ n ∧ Gr w1 W)) (fun k => n - k) (l0 := [(0, _), (1, _), (3, _), (15, _), (16, _)]) 0 H14 ⟨rfl, rfl, rfl, rfl, rfl, rfl, rfl, trivial⟩ ⟨Nat.zero_le _, Gr.refl _⟩ ?_
    rintro k a15 w2 H15 ⟨hk, hgk⟩
    clear H14 a14
    simp only [List.cons_append, List.nil_append] at H15
    replace hS1 := hS1.gr hgk
    replace hN := hN.ofGr hgk
    replace hb1 := hb1.gr hgk
    replace hI1 := hstep _ _ _ _ _ hI1 (NewS.ofNew ((New.refl hSk).ofGr hgk))
    refine wpIn_seq ?_
    refine w_reg ?_
    refine wl1 H15 (r_lss rfl rfl) rfl rfl rfl rfl fun a16 H16 => ?_
    clear H15 a15
    refine wl_end ?_
    refine th_n ?_
    refine wpIn_seq ?_
    first | refine w_if H16 rfl (fun hc18 => ?_) (fun hc18 => ?_) | refine w_cond H16 rfl (fun hc18 => ?_) (fun hc18 => ?_)
    ·
      try simp only [decide_eq_true_eq, decide_eq_false_iff_not, Bool.or_eq_true, Bool.and_eq_true, Bool.or_eq_false_iff, Bool.and_eq_false_iff, Bool.not_eq_true', Bool.not_eq_false', Int.not_lt, Int.not_le, ne_eq, Decidable.not_not] at hc18
      refine wpIn_skip ?_
      refine th_n ?_
      refine wpIn_seq ?_
      refine wpIn_block ?_
      refine wpIn_seq ?_
      refine w_reg ?_
      refine wl1 H16 (r_move rfl) rfl rfl rfl rfl fun a17 H17 => ?_
      clear H16 a16
      refine wl1 H17 (r_idx Try.underlying48 sz5 rfl rfl (i := k) rfl (by omega)) rfl rfl rfl rfl fun a18 H18 => ?_
      clear H17 a17
      refine wl1 H18 (r_load sc5 rfl (hN.sat.cell (hE1.num (j := k) (by omega)).1)) rfl rfl rfl rfl fun a19 H19 => ?_
      clear H18 a18
      have hb8 := (hE1.num (j := k) (by omega)).2
      simp only [InK] at hb8
      refine wl1 H19 (r_assign rfl) rfl rfl rfl rfl fun a20 H20 => ?_
      clear H19 a19
      refine wl1 H20 (r_assign rfl) rfl rfl rfl rfl fun a21 H21 => ?_
      clear H20 a20
      refine wl_end ?_
      refine th_n ?_
      refine w_reg ?_
      refine wl1 H21 (r_move rfl) rfl rfl rfl rfl fun a22 H22 => ?_
      clear H21 a21
      refine wl1 H22 (r_move rfl) rfl rfl rfl rfl fun a23 H23 => ?_
      clear H22 a22
      first | refine wl1 H23 (r_convk Try.underlying5 Try.underlying33 rfl (by simp only [InK]; omega)) rfl rfl rfl rfl fun a24 H24 => ?_ | refine wl1 H23 (r_conv Try.underlying5 Try.underlying33 rfl) rfl rfl rfl rfl fun a24 H24 => ?_
      clear H23 a23
      refine wl1 H24 (r_move rfl) rfl rfl rfl rfl fun a25 H25 => ?_
      clear H24 a24
      first | refine wl1 H25 (r_mulk rfl rfl (by simp only [InK]; omega)) rfl rfl rfl rfl fun a26 H26 => ?_ | refine wl1 H25 (r_mul rfl rfl) rfl rfl rfl rfl fun a26 H26 => ?_
      clear H25 a25
      refine wl1 H26 (r_shl rfl rfl (by omega)) rfl rfl rfl rfl fun a27 H27 => ?_
      clear H26 a26
      refine wl1 H27 (r_or rfl rfl) rfl rfl rfl rfl fun a28 H28 => ?_
      clear H27 a27
      rw [leSum_step0 hIB (by omega) (by omega)] at H28
      refine wl1 H28 (r_assign rfl) rfl rfl rfl rfl fun a29 H29 => ?_
      clear H28 a28
      refine wl_end ?_
      refine bl_n ?_
      refine th_n ?_
      refine w_reg ?_
      first | refine wl1 H29 (r_addk rfl rfl (by simp only [InK]; omega)) rfl rfl rfl rfl fun a30 H30 => ?_ | refine wl1 H29 (r_add rfl rfl) rfl rfl rfl rfl fun a30 H30 => ?_
      clear H29 a29
      refine wl1 H30 (r_move rfl) rfl rfl rfl rfl fun a31 H31 => ?_
      clear H30 a30
      refine wl_end ?_
      exact th_n ⟨k + 1, (by omega), H31.sub ⟨rfl, rfl, rfl, rfl, rfl, rfl, rfl, trivial⟩, by omega, hgk⟩
    ·
      try simp only [decide_eq_true_eq, decide_eq_false_iff_not, Bool.or_eq_true, Bool.and_eq_true, Bool.or_eq_false_iff, Bool.and_eq_false_iff, Bool.not_eq_true', Bool.not_eq_false', Int.not_lt, Int.not_le, ne_eq, Decidable.not_not] at hc18
      rw [show k = n by omega] at H16
      refine wpIn_exit ?_
      refine th_x ?_
      refine th_x ?_
      refine bl_hit ?_
      refine th_n ?_
      refine wpIn_seq ?_
      refine wpIn_seq ?_
      refine w_reg ?_
      refine wl1 H16 (r_move rfl) rfl rfl rfl rfl fun a17 H32 => ?_
      clear H16 a16
      refine wl1 H32 (r_move rfl) rfl rfl rfl rfl fun a18 H33 => ?_
      clear H32 a17
      refine wly H33 rfl rfl rfl (hround ws (leSum (cur.take n)) J1 w2 _ hI1 hS1 hb1 (InK_of_U (leSum8_U hIB (by omega)))) fun v w3 hR a19 H34 => ?_
      clear H33 a18
      obtain ⟨rfl, J3, hle3, hS3, hb3, hI3⟩ := hR
      refine wl1 H34 (r_not rfl) rfl rfl rfl rfl fun a20 H35 => ?_
      clear H34 a19
      refine wl_end ?_
      refine th_n ?_
      first | refine w_iff H35 rfl rfl ?_ | refine w_ff H35 rfl rfl ?_
      refine wpIn_skip ?_
      refine th_n ?_
      refine w_reg ?_
      refine wl1 H35 (r_load sc48 rfl (hb3.cell rfl)) rfl rfl rfl rfl fun a21 H36 => ?_
      clear H35 a20
      refine wl1 H36 (r_move rfl) rfl rfl rfl rfl fun a22 H37 => ?_
      clear H36 a21
      refine wl1 H37 (r_from (lo := n) Try.underlying48 sz5 rfl rfl rfl (by omega) (by omega)) rfl rfl rfl rfl fun a23 H38 => ?_
      clear H37 a22
      refine s_storeS H38 sz48 rfl rfl rfl hS3 hb3 (by simp) fun w91 hS4 hb4 he91 H39 => ?_
      clear H38
      have hI4 := hstep _ _ _ _ _ hI3 ⟨Im.le.refl _, hS4, by rw [he91]; exact (Mod.refl (fun k => k = bc) _).setB (.inl rfl) _ _, fun _ _ => rfl⟩
      refine wl_end ?_
      refine bl_n ?_
      exact th_n ⟨⟨ws ++ [leSum (cur.take n)], cur.drop n, offS (some ⟨bA, oA, none⟩) n 1 c1, c1 - n, J3⟩, (by show (cur.drop n).length < cur.length; simp; omega), H39.sub ⟨rfl, rfl, trivial⟩, hS4, hle1.trans hle3, hI4, by simp only [List.length_drop]; exact hb4, (hE1.up hle3).off hc1, by simp only [List.length_drop]; omega, by rw [hj1, dgroups_cons (by omega), ← htk, hdk, List.append_assoc]; rfl⟩
  ·
    try simp only [decide_eq_true_eq, decide_eq_false_iff_not, Bool.or_eq_true, Bool.and_eq_true, Bool.or_eq_false_iff, Bool.and_eq_false_iff, Bool.not_eq_true', Bool.not_eq_false', Int.not_lt, Int.not_le, ne_eq, Decidable.not_not] at hc9
    refine wpIn_exit ?_
    refine th_x ?_
    refine th_x ?_
    refine bl_hit ?_
    refine fin_n H4 (res0 rfl) ?_
    exact ⟨J1, hle1, hS1, by rw [hj1, show cur = [] from List.eq_nil_of_length_eq_zero (by omega), dgroups_nil, List.append_nil]; exact hI1⟩
set_option maxRecDepth 100000 in
set_option maxHeartbeats 400000 in
theorem groups_ret {A : Option Addr} {c n : Nat} {I : Im} {w : World} (hS : Sat I w)  :
    Ret Try.prog 33 [.slice A n c] w (fun v w' => (∃ b, v = .func (.func 37) #[] #[.pointer (some ⟨b, 0, none⟩)] ∧ Box I w' b [.slice A n c] 48 ∧ w.heap.size ≤ b) ∧ Gr w w') := by
  refine ret_of (N := 4) Try.func33 rfl rfl rfl fun a0 H0 => ?_
  have hN := New.refl hS
  simp only [argsEnv, Nat.zero_add, Nat.reduceAdd] at H0
  refine wpIn_seq ?_
  refine w_reg ?_
  refine s_box H0 rfl rfl hN fun w1 b1 hN gw1 hB1 hgeb1 heb1 a1 H1 => ?_
  clear H0 a0
  replace hB1 : Box _ _ _ [_] 48 := hB1
  refine wl1 H1 (r_assign rfl) rfl rfl rfl rfl fun a2 H2 => ?_
  clear H1 a1
  refine wl_end ?_
  refine th_n ?_
  refine wpIn_seq ?_
  refine w_reg ?_
  refine wl1 H2 (r_makeFunc rfl rfl) rfl rfl rfl rfl fun a3 H3 => ?_
  clear H2 a2
  refine wl1 H3 (r_assign rfl) rfl rfl rfl rfl fun a4 H4 => ?_
  clear H3 a3
  refine wl_end ?_
  refine th_n ?_
  refine wpIn_ret ?_
  refine fin_r H4 (res1 rfl H4 rfl) ?_
  exact ⟨⟨_, rfl, hB1, hgeb1⟩, hN.gr⟩

/-- Between two rounds of Bytes. -/
def BytesInv (I : Im) (w : World) (b3 L Dd : Nat) (rc : Loop) (ws : List Int) (J : Im) (W : World) : Prop :=
  New I w J W ∧ Ob J W L (.loop rc) ∧ Ob J W Dd (.deferred (some [])) ∧ Box J W b3 [.int .u64 (dfold 422944466291 ws)] 62


theorem dfold_nil1 (h x : Int) : dfold h [x] = dstep h x := rfl

set_option maxRecDepth 100000 in
set_option maxHeartbeats 400000 in
theorem bytes_ret {A : Option Addr} {c : Nat} {l : List Int} {I : Im} {w : World} (hS : Sat I w) (hA : Els (kInt .u8) I A l) (hlc : l.length ≤ c) :
    Ret Try.prog 19 [.slice A l.length c] w (fun v w' => v = .int .u64 (dbytes l) ∧ Gr w w') := by
  refine ret_ofM (N := 17) Try.func19 rfl rfl rfl fun a0 H0 => ?_
  have hN := New.refl hS
  simp only [argsEnv, Nat.zero_add, Nat.reduceAdd] at H0
  refine wpIn_seq ?_
  refine w_reg ?_
  refine wl1 H0 (r_assign rfl) rfl rfl rfl rfl fun a1 H1 => ?_
  clear H0 a0
  refine wl_end ?_
  refine th_n ?_
  refine wpIn_seq ?_
  refine w_reg ?_
  refine s_alloc H1 zv62 rfl hN fun w1 b3 hN gw1 hB3 hgeb3 heb3 a2 H2 => ?_
  clear H1 a1
  replace hB3 : Box _ _ _ [.int .u64 0] 62 := hB3
  refine s_store H2 sz62 rfl rfl rfl hN hB3 (by simp) hgeb3 fun w2 hN hB3 ew2 H3 => ?_
  clear H2
  simp only [Nat.zero_add, Nat.add_zero, Nat.reduceAdd, Nat.reduceMul, List.set_cons_zero, List.set_cons_succ, spliceL] at hB3
  clear ew2
  refine wl_end ?_
  refine th_n ?_
  refine wpIn_seq ?_
  refine wpIn_seq ?_
  refine w_reg ?_
  refine wl1 H3 (r_move rfl) rfl rfl rfl rfl fun a3 H4 => ?_
  clear H3 a2
  have hltb3 := hB3.lt
  refine wlc  H4 rfl rfl hb33 rfl (groups_ret hN.sat) fun v w3 hR a4 H5 => ?_
  clear H4 a3
  obtain ⟨⟨b6, rfl, hB6, hgeb6⟩, gw3⟩ := hR
  have hN := hN.ofGr gw3
  replace hB3 := hB3.gr gw3
  refine wl_end ?_
  refine th_n ?_
  refine wpIn_block ?_
  have hlt3 := hB3.lt
  have hlt6 := hB6.lt
  have hne36 : b3 < b6 := by omega
  refine w_range' (first := []) (capt := [_]) H5 rfl hb37 ?_
  intro rc L Dd w4 hDge hDL hLs gw4 hL hD hrs hrp hrt hrps hra hrb
  have hN := hN.ofGr gw4
  replace hB3 := hB3.gr gw4
  replace hB6 := hB6.gr gw4
  have hszL := gw4.size
  have hgeL : w.heap.size ≤ L := by omega
  have hLb : Ob I w4 L (.loop rc) := ⟨hL, hS.fresh (by omega)⟩
  have hDb : Ob I w4 Dd (.deferred (some [])) := ⟨hD, hS.fresh (by omega)⟩
  have h0 : BytesInv I w b3 L Dd rc [] I w4 := ⟨hN, hLb, hDb, hB3⟩
  have hround : ∀ ws x J W cs, BytesInv I w b3 L Dd rc ws J W → Sat J W → Box J W b6 cs 48 → InK .u64 x → YRet Try.prog L [.int .u64 x] W (fun v W' => v = .bool true ∧ ∃ J', Im.le J J' ∧ Sat J' W' ∧ Box J' W' b6 cs 48 ∧ BytesInv I w b3 L Dd rc (ws ++ [x]) J' W') := by
    intro ws x J W cs ⟨hN, hLb, hDb, hB3⟩ hSW hB6 hx
    have hLW := hLb.at_
    clear hL hD
    refine yield_ofA (x := .int .u64 x) hLW hrs hrps hrt hra hrb H5 rfl ?_
    intro a5 H6
    refine w_reg ?_
    refine wl1 H6 (r_assign rfl) rfl rfl rfl rfl fun a6 H7 => ?_
    clear H6 a5
    refine wl_end ?_
    refine th_n ⟨rfl, ?_⟩
    obtain ⟨W1, hW1⟩ : ∃ x, x = setO W L (.loop { rc with state := .busy }) := ⟨_, rfl⟩
    rw [← hW1]
    replace hN : New I w J W1 := by rw [hW1]; exact hN.setO hgeL hLb.im _
    replace hB6 : Box J W1 b6 cs 48 := by rw [hW1]; exact hB6.otherO (by omega) _
    replace hB3 : Box J W1 b3 [.int .u64 (dfold 422944466291 ws)] 62 := by rw [hW1]; exact hB3.otherO (by omega) _
    replace hDb : Ob J W1 Dd (.deferred (some [])) := by rw [hW1]; exact hDb.otherO (by omega) _
    replace hLb : Ob J W1 L (.loop { rc with state := .busy }) := by rw [hW1]; exact hLb.set _
    clear hW1
    have hleJ := Im.le.refl J
    refine wpIn_block ?_
    refine w_reg ?_
    refine wl1 H7 (r_move rfl) rfl rfl rfl rfl fun a7 H8 => ?_
    clear H7 a6
    refine s_lit1 (cs := [_]) H8 Try.underlying22 sz33 zv33 rfl rfl rfl (by simp [Value.oneCell']) rfl hN fun w5 l9 K5 hKl9 hlel9 hN nw5 hgel9 a8 H9 => ?_
    clear H8 a7
    replace hB6 := hB6.next nw5
    replace hB3 := hB3.next nw5
    replace hDb := hDb.next nw5
    replace hLb := hLb.next nw5
    have hE9 : Els (kInt .u64) K5 (some ⟨l9, 0, none⟩) [x] := Els.nums hKl9 (by simp) (by simp only [List.mem_singleton]; rintro y rfl; exact hx)
    replace hleJ := hleJ.trans hlel9
    refine wlc  H9 rfl rfl hb32 rfl (add_ret hN.sat hB3 hE9 rfl (by omega)) fun v w6 hR a9 H10 => ?_
    clear H9 a8
    obtain ⟨rfl, hNS, hB3n⟩ := hR
    rw [dfold_nil1] at hB3n
    replace hN := hN.transS hNS (fun b e => by subst e; omega)
    replace hB6 := hB6.nextS hNS (by omega)
    replace hDb := hDb.nextS hNS (by omega)
    replace hLb := hLb.nextS hNS (by omega)
    replace hB3 := hB3n
    refine wl_end ?_
    refine bl_n ?_
    refine round_n hLb.at_ hrs hrp ?_
    exact ⟨rfl, K5, hleJ, (hN.setO hgeL hLb.im _).sat, hB6.otherO (by omega) _, hN.setO hgeL hLb.im _, hLb.set _, hDb.otherO (by omega) _, by rw [dfold_snoc]; exact hB3.otherO (by omega) _⟩
  refine (dgroups_ret (Inv := BytesInv I w b3 L Dd rc) hN.sat hB6 hA hlc (fun ws J W J' W' ⟨h1, h2, h3, h4⟩ hk => ⟨h1.transS hk (fun b e => by subst e; omega), h2.nextS hk (by omega), h3.nextS hk (by omega), h4.nextS hk (by omega)⟩) hround h0).mono ?_
  rintro v w7 ⟨J3, hle3, hS3, ⟨hN3, hLb, hDb, hB3⟩⟩
  have hL3 := hLb.at_
  refine ⟨hL3, ?_⟩
  intro a5 H11
  obtain ⟨w8, hw4⟩ : ∃ x, x = setO w7 L (.loop { rc with state := .exhausted }) := ⟨_, rfl⟩
  rw [← hw4]
  replace hN : New I w J3 w8 := by rw [hw4]; exact hN3.setO hgeL hLb.im _
  replace hB3 : Box J3 w8 b3 [.int .u64 (dfold 422944466291 (dgroups l))] 62 := by rw [hw4]; exact hB3.otherO (by omega) _
  replace hDb : Ob J3 w8 Dd (.deferred (some [])) := by rw [hw4]; exact hDb.otherO (by omega) _
  clear hw4
  refine bl_n ?_
  refine th_n ?_
  refine wpIn_seq ?_
  refine w_reg ?_
  refine wl1 H11 (r_move rfl) rfl rfl rfl rfl fun a6 H12 => ?_
  clear H11 a5
  refine wl1 H12 (r_len Try.underlying48 rfl) rfl rfl rfl rfl fun a7 H13 => ?_
  clear H12 a6
  refine wl1 H13 (r_conv Try.underlying3 Try.underlying33 rfl) rfl rfl rfl rfl fun a8 H14 => ?_
  clear H13 a7
  rw [show IntKind.u64.wrap (l.length : Int) = (l.length : Int) from InK.wrap (q := .u64) (by have := hA.1; simp only [InK]; omega)] at H14
  refine s_lit1 (cs := [_]) H14 Try.underlying22 sz33 zv33 rfl rfl rfl (by simp [Value.oneCell']) rfl hN fun w9 l14 K9 hKl14 hlel14 hN nw9 hgel14 a9 H15 => ?_
  clear H14 a8
  replace hB3 := hB3.next nw9
  replace hDb := hDb.next nw9
  have hE14 : Els (kInt .u64) K9 (some ⟨l14, 0, none⟩) [(l.length : Int)] := Els.nums hKl14 (by simp) (by simp only [List.mem_singleton]; rintro y rfl; have := hA.1; simp only [InK]; omega)
  refine wlc  H15 rfl rfl hb32 rfl (add_ret hN.sat hB3 hE14 rfl (by omega)) fun v w10 hR a10 H16 => ?_
  clear H15 a9
  obtain ⟨rfl, hNS, hB3n⟩ := hR
  rw [dfold_nil1] at hB3n
  replace hN := hN.transS hNS (fun b e => by subst e; omega)
  replace hDb := hDb.nextS hNS (by omega)
  replace hB3 := hB3n
  refine wl_end ?_
  refine th_n ?_
  refine wpIn_seq ?_
  refine w_reg ?_
  refine wl1 H16 (r_load sc62 rfl (hB3.cell rfl)) rfl rfl rfl rfl fun a11 H17 => ?_
  clear H16 a10
  refine wl1 H17 (r_assign rfl) rfl rfl rfl rfl fun a12 H18 => ?_
  clear H17 a11
  refine wl_end ?_
  refine th_n ?_
  refine wpIn_ret ?_
  refine finM H18 hDb.at_ (res1 rfl H18 rfl) ?_
  exact ⟨rfl, (hN.setO (by omega) hDb.im _).gr⟩
end Go.Proofs.Ytlikefnngkokhaa
