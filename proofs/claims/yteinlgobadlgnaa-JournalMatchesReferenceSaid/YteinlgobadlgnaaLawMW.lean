/- The law JournalMatchesReference, walked. -/
import Derived.Test.YteinlgobadlgnaaRefG
set_option linter.unusedVariables false
set_option linter.unusedSimpArgs false
namespace Go.Proofs.Yteinlgobadlgnaa
open Go.RowKit


def rl (k : Int) (n : Nat) : List Int := (List.range n).map fun i : Nat => 7 * (i : Int) - k
theorem rl_len (k : Int) (n : Nat) : (rl k n).length = n := by simp [rl]
theorem rl_succ (k : Int) (n : Nat) : rl k (n + 1) = rl k n ++ [7 * (n : Int) - k] := by simp [rl, List.range_succ]
def RR (l : List Int) (J : Im) (v : Value) : Prop :=
  ∃ A1 c1 A2 c2, v = .agg #[.slice A1 (jall l 0).recs.length c1, .slice A2 (l.length - (jall l 0).off) c2, .int .i64 (if (jall l 0).off < l.length then 60 else 0), .int .i64 (((jall l 0).off : Nat) : Int), .int .u64 (jall l 0).key] ∧
    (jall l 0).recs.length ≤ c1 ∧ Els (kSl (kInt .i64)) J A1 (jall l 0).recs ∧ l.length - (jall l 0).off ≤ c2 ∧ Els (kInt .u8) J A2 (l.drop (jall l 0).off)
theorem rreadΦ {A : Option Addr} {c : Nat} {l : List Int} {I : Im} {w : World} (hS : Sat I w) (hA : Els (kInt .u8) I A l) (hlc : l.length ≤ c) (hmax : l.length ≤ 16777216) : Ret Try.prog 13 [.slice A l.length c] w (fun u w' => ∃ K, New I w K w' ∧ RR l K u) := rread hS hA hlc hmax
def PR (l rec : List Int) (J : Im) (v : Value) : Prop := ∃ A c, v = .agg #[.slice A (putB l rec).length c, .int .i64 (putErr l rec)] ∧ (putB l rec).length ≤ c ∧ Els (kInt .u8) J A (putB l rec)
theorem lputΦ {A R : Option Addr} {c cr : Nat} {l rec : List Int} {I : Im} {w : World} (hS : Sat I w) (hA : Els (kInt .u8) I A l) (hlc : l.length ≤ c) (hmax : l.length ≤ 16777216) (hR : Els (kInt .i64) I R rec) (hrc : rec.length ≤ cr) : Ret Try.prog 14 [.slice A l.length c, .slice R rec.length cr] w (fun u w' => ∃ K, New I w K w' ∧ PR l rec K u) := lput hS hA hlc hmax hR hrc
theorem rputΦ {A R : Option Addr} {c cr : Nat} {l rec : List Int} {I : Im} {w : World} (hS : Sat I w) (hA : Els (kInt .u8) I A l) (hlc : l.length ≤ c) (hmax : l.length ≤ 16777216) (hR : Els (kInt .i64) I R rec) (hrc : rec.length ≤ cr) : Ret Try.prog 15 [.slice A l.length c, .slice R rec.length cr] w (fun u w' => ∃ K, New I w K w' ∧ PR l rec K u) := rput hS hA hlc hmax hR hrc

set_option maxRecDepth 100000 in
set_option maxHeartbeats 2000000 in
theorem matches_ret {A B : Option Addr} {c c2 : Nat} {l : List Int} {rs : List (List Int)} {k0 k1 k2 k3 : Int} {I : Im} {w : World} (hS : Sat I w) (hA : Els (kInt .u8) I A l) (hlc : l.length ≤ c) (hX : Els (kSl (kInt .i64)) I B rs) (hk0 : 0 ≤ k0 ∧ k0 ≤ 65535) (hk1 : 0 ≤ k1 ∧ k1 ≤ 65535) (hk2 : 0 ≤ k2 ∧ k2 ≤ 65535) (hk3 : 0 ≤ k3 ∧ k3 ≤ 65535) :
    Ret Try.prog 3 [.slice A l.length c, .slice B rs.length c2, .agg #[.int .u16 k0, .int .u16 k1, .int .u16 k2, .int .u16 k3]] w (fun v w' => v = .bool true ∧ Gr w w') := by
  obtain ⟨n3, hn3⟩ : ∃ n : Nat, k3 % 300 = (n : Int) := ⟨(k3 % 300).toNat, by omega⟩
  have hn30 : n3 < 300 := by omega
  refine ret_of (N := 186) Try.func3 rfl rfl rfl fun a0 H0 => ?_
  have hN := New.refl hS
  simp only [argsEnv, Nat.zero_add, Nat.reduceAdd] at H0
  refine wpIn_seq ?_
  refine w_reg ?_
  refine s_box H0 rfl rfl hN fun w1 b5 hN gw1 hB5 hgeb5 heb5 a1 H1 => ?_
  clear H0 a0
  replace hB5 : Box _ _ _ [_, _, _, _] 25 := hB5
  refine wl1 H1 (r_assign rfl) rfl rfl rfl rfl fun a2 H2 => ?_
  clear H1 a1
  refine wl_end ?_
  refine th_n ?_
  refine wpIn_seq ?_
  refine w_reg ?_
  refine wlc  H2 rfl rfl hb9 rfl (examples_ret hN.sat) fun v w2 hR a3 H3 => ?_
  clear H2 a2
  obtain ⟨rfl, gw2⟩ := hR
  have hN := hN.ofGr gw2
  replace hB5 := hB5.gr gw2
  replace H3 := H3.known (t := 17) (b := true) rfl rfl
  refine wl1 H3 (r_assign rfl) rfl rfl rfl rfl fun a4 H4 => ?_
  clear H3 a3
  refine wl_end ?_
  refine th_n ?_
  refine wpIn_seq ?_
  refine wpIn_seq ?_
  refine w_reg ?_
  refine wl1 H4 (r_move rfl) rfl rfl rfl rfl fun a5 H5 => ?_
  clear H4 a4
  refine wl1 H5 (r_not rfl) rfl rfl rfl rfl fun a6 H6 => ?_
  clear H5 a5
  replace H6 := H6.known (t := 19) (b := false) rfl rfl
  refine wl_end ?_
  refine th_n ?_
  refine w_ff H6 rfl rfl ?_
  refine wpIn_skip ?_
  refine th_n ?_
  refine wpIn_seq ?_
  refine wpIn_seq ?_
  refine w_reg ?_
  refine wl1 H6 (r_move rfl) rfl rfl rfl rfl fun a7 H7 => ?_
  clear H6 a6
  refine wl1 H7 (r_len Try.underlying22 rfl) rfl rfl rfl rfl fun a8 H8 => ?_
  clear H7 a7
  refine wl1 H8 (r_gtr rfl rfl) rfl rfl rfl rfl fun a9 H9 => ?_
  clear H8 a8
  refine wl1 H9 (r_move rfl) rfl rfl rfl rfl fun a10 H10 => ?_
  clear H9 a9
  refine wl_split (t := 23) H10 rfl (fun hg4_3 H11 => ?_) (fun hg4_3 H11 => ?_)
  ·
    clear H10
    try simp only [decide_eq_true_eq, decide_eq_false_iff_not, Bool.or_eq_true, Bool.and_eq_true, Bool.or_eq_false_iff, Bool.and_eq_false_iff, Bool.not_eq_true', Bool.not_eq_false', Int.not_lt, Int.not_le, ne_eq, Decidable.not_not] at hg4_3
    refine wl_off (d := 23) H11 rfl rfl rfl rfl rfl rfl fun a11 H12 => ?_
    clear H11 a10
    refine wl_off (d := 23) H12 rfl rfl rfl rfl rfl rfl fun a12 H13 => ?_
    clear H12 a11
    refine wl_off (d := 23) H13 rfl rfl rfl rfl rfl rfl fun a13 H14 => ?_
    clear H13 a12
    refine wl1 H14 (r_pick_t rfl rfl) rfl rfl rfl rfl fun a14 H15 => ?_
    clear H14 a13
    refine wl_end ?_
    refine th_n ?_
    refine w_tt H15 rfl rfl ?_
    refine wpIn_seq ?_
    refine w_reg ?_
    refine wl1 H15 (r_move rfl) rfl rfl rfl rfl fun a15 H16 => ?_
    clear H15 a14
    refine wl1 H16 (r_assign rfl) rfl rfl rfl rfl fun a16 H17 => ?_
    clear H16 a15
    refine wl_end ?_
    refine th_n ?_
    refine wpIn_ret ?_
    refine th_r ?_
    refine fin_r H17 (res1 rfl H17 rfl) ?_
    exact ⟨rfl, hN.gr⟩
  ·
    clear H10
    try simp only [decide_eq_true_eq, decide_eq_false_iff_not, Bool.or_eq_true, Bool.and_eq_true, Bool.or_eq_false_iff, Bool.and_eq_false_iff, Bool.not_eq_true', Bool.not_eq_false', Int.not_lt, Int.not_le, ne_eq, Decidable.not_not] at hg4_3
    refine wl_on (d := 23) H11 rfl rfl rfl ?_
    refine wl1 H11 (r_move rfl) rfl rfl rfl rfl fun a11 H18 => ?_
    clear H11 a10
    refine wl_on (d := 23) H18 rfl rfl rfl ?_
    refine wlc  H18 rfl rfl hb10 rfl (rsmall hN.sat hX) fun v w3 hR a12 H19 => ?_
    clear H18 a11
    obtain ⟨rfl, gw3⟩ := hR
    have hN := hN.ofGr gw3
    replace hB5 := hB5.gr gw3
    refine wl_on (d := 23) H19 rfl rfl rfl ?_
    refine wl1 H19 (r_not rfl) rfl rfl rfl rfl fun a13 H20 => ?_
    clear H19 a12
    refine wl1 H20 (r_pick_f rfl rfl) rfl rfl rfl rfl fun a14 H21 => ?_
    clear H20 a13
    refine wl_end ?_
    refine th_n ?_
    first | refine w_if H21 rfl (fun hc27 => ?_) (fun hc27 => ?_) | refine w_cond H21 rfl (fun hc27 => ?_) (fun hc27 => ?_)
    ·
      try simp only [decide_eq_true_eq, decide_eq_false_iff_not, Bool.or_eq_true, Bool.and_eq_true, Bool.or_eq_false_iff, Bool.and_eq_false_iff, Bool.not_eq_true', Bool.not_eq_false', Int.not_lt, Int.not_le, ne_eq, Decidable.not_not] at hc27
      refine wpIn_seq ?_
      refine w_reg ?_
      refine wl1 H21 (r_move rfl) rfl rfl rfl rfl fun a15 H22 => ?_
      clear H21 a14
      refine wl1 H22 (r_assign rfl) rfl rfl rfl rfl fun a16 H23 => ?_
      clear H22 a15
      refine wl_end ?_
      refine th_n ?_
      refine wpIn_ret ?_
      refine th_r ?_
      refine fin_r H23 (res1 rfl H23 rfl) ?_
      exact ⟨rfl, hN.gr⟩
    ·
      try simp only [decide_eq_true_eq, decide_eq_false_iff_not, Bool.or_eq_true, Bool.and_eq_true, Bool.or_eq_false_iff, Bool.and_eq_false_iff, Bool.not_eq_true', Bool.not_eq_false', Int.not_lt, Int.not_le, ne_eq, Decidable.not_not] at hc27
      refine wpIn_skip ?_
      refine th_n ?_
      refine wpIn_seq ?_
      refine w_reg ?_
      refine wl1 H21 (r_move rfl) rfl rfl rfl rfl fun a15 H24 => ?_
      clear H21 a14
      have hlt5 := hB5.lt
      have hsz6 := hN.gr.size
      refine wlc  H24 rfl rfl hb11 rfl (rjournalO hN.sat hX) fun v w4 hR a16 H25 => ?_
      clear H24 a15
      obtain ⟨J4, nw4, ⟨u8, rfl, hO, hOw⟩⟩ := hR
      replace hA := hA.up nw4.le
      replace hX := hX.up nw4.le
      replace hB5 := hB5.next nw4
      have hN := hN.trans nw4
      obtain ⟨A8, c8, rfl, hc8, hl8, _⟩ := hO.form
      have hjfl := jfold_le rs
      obtain ⟨ol, hol⟩ : ∃ x, x = jfold rs := ⟨_, rfl⟩
      rw [← hol] at H25 hO hOw hc8 hjfl hl8
      refine wl1 H25 (r_assign rfl) rfl rfl rfl rfl fun a17 H26 => ?_
      clear H25 a16
      refine wl_end ?_
      refine th_n ?_
      refine wpIn_seq ?_
      refine wpIn_seq ?_
      refine w_reg ?_
      refine wl1 H26 (r_move rfl) rfl rfl rfl rfl fun a18 H27 => ?_
      clear H26 a17
      refine wl1 H27 (r_len Try.underlying22 rfl) rfl rfl rfl rfl fun a19 H28 => ?_
      clear H27 a18
      refine wl1 H28 (r_gtr rfl rfl) rfl rfl rfl rfl fun a20 H29 => ?_
      clear H28 a19
      refine wl_end ?_
      refine th_n ?_
      first | refine w_if H29 rfl (fun hc33 => ?_) (fun hc33 => ?_) | refine w_cond H29 rfl (fun hc33 => ?_) (fun hc33 => ?_)
      ·
        try simp only [decide_eq_true_eq, decide_eq_false_iff_not, Bool.or_eq_true, Bool.and_eq_true, Bool.or_eq_false_iff, Bool.and_eq_false_iff, Bool.not_eq_true', Bool.not_eq_false', Int.not_lt, Int.not_le, ne_eq, Decidable.not_not] at hc33
        have hOw := hOw (by omega)
        obtain ⟨go, co, cs, rest, hv, hco, _, hgo, hR, hBo⟩ := hOw.box (by omega)
        injection hv with e1 e2 e3
        subst e1 e3
        clear hO hOw
        obtain ⟨rfl, hk8⟩ := hR.ints
        obtain ⟨n0, hn0⟩ : ∃ n : Nat, k0 % (ol.length : Int) = (n : Int) := ⟨(k0 % (ol.length : Int)).toNat, by have := Int.emod_nonneg k0 (show (ol.length : Int) ≠ 0 by omega); omega⟩
        have hn1 : n0 < ol.length := by have := Int.emod_lt_of_pos k0 (show (0 : Int) < (ol.length : Int) by omega); omega
        obtain ⟨n2, hn2⟩ : ∃ n : Nat, k2 % (ol.length : Int) = (n : Int) := ⟨(k2 % (ol.length : Int)).toNat, by have := Int.emod_nonneg k2 (show (ol.length : Int) ≠ 0 by omega); omega⟩
        have hn3' : n2 < ol.length := by have := Int.emod_lt_of_pos k2 (show (0 : Int) < (ol.length : Int) by omega); omega
        have hw1 := inK_wrap .u8 k1
        simp only [InK] at hw1
        have hx8 := (xor8 (hk8 ol[n0] (List.getElem_mem _)) hw1).1
        obtain ⟨b, hb⟩ : ∃ b, b = ibits .xor .u8 ol[n0] (IntKind.u8.wrap k1) := ⟨_, rfl⟩
        rw [← hb] at hx8
        have hgeo : w.heap.size ≤ go := Nat.le_trans hsz6 hgo
        have hne5 : go ≠ b5 := by omega
        refine wpIn_seq ?_
        have hS0 := hN.sat
        have hNsz8 := hN.gr.size
        refine w_drawE (m := 20) (l0 := [(0, _), (5, _), (6, _), (7, _), (8, _)]) hfol H29 ⟨rfl, rfl, rfl, rfl, rfl, trivial⟩ (by kernel_rfl) ?_
        refine ⟨_, false, (fun σ ι w1 hg hd hon => by
            exact OpOK.sub (r := [(0, _), (5, _), (6, _), (7, _), (8, _)]) ⟨rfl, rfl, rfl, rfl, rfl, trivial⟩ (by
              exact OpOK.eq (r_move rfl))
            ), (fun _ _ _ _ _ _ h => h), (FreeR.no _), ?_⟩
        refine ⟨_, false, (fun σ ι w1 hg hd hon => by
            exact OpOK.sub (r := [(0, _), (5, _), (6, _), (7, _), (8, _)]) ⟨rfl, rfl, rfl, rfl, rfl, trivial⟩ (by
              exact OpOK.eq (r_idxA Try.underlying25 sz24 rfl rfl (i := 0) rfl (by omega)))
            ), (fun _ _ _ _ _ _ h => h), (FreeR.no _), ?_⟩
        refine ⟨_, false, (fun σ ι w1 hg hd hon => by
            have hN := hN.ofGr ((Gr.refl _).drew.trans hg)
            have hB5 := hB5.gr ((Gr.refl _).drew.trans hg)
            have hBo := hBo.gr ((Gr.refl _).drew.trans hg)
            have f1 := hd 1 (by decide) _ rfl
            have e1 : σ 1 = _ := f1.1 trivial
            exact OpOK.sub (r := [(35, _), (0, _), (5, _), (6, _), (7, _), (8, _)]) ⟨congrArg some e1, rfl, rfl, rfl, rfl, rfl, trivial⟩ (by
              exact OpOK.eq (r_load sc24 rfl (hB5.cell rfl)))
            ), (fun _ _ _ _ _ _ h => h), (FreeR.no _), ?_⟩
        refine ⟨_, false, (fun σ ι w1 hg hd hon => by
            have f2 := hd 2 (by decide) _ rfl
            have e2 : σ 2 = _ := f2.1 trivial
            exact OpOK.sub (r := [(36, _), (0, _), (5, _), (6, _), (7, _), (8, _)]) ⟨congrArg some e2, rfl, rfl, rfl, rfl, rfl, trivial⟩ (by
              first | exact OpOK.eq (r_convk Try.underlying24 Try.underlying3 rfl (by simp only [InK]; omega)) | exact OpOK.eq (r_conv Try.underlying24 Try.underlying3 rfl))
            ), (fun _ _ _ _ _ _ h => h), (FreeR.no _), ?_⟩
        refine ⟨_, false, (fun σ ι w1 hg hd hon => by
            exact OpOK.sub (r := [(0, _), (5, _), (6, _), (7, _), (8, _)]) ⟨rfl, rfl, rfl, rfl, rfl, trivial⟩ (by
              exact OpOK.eq (r_move rfl))
            ), (fun _ _ _ _ _ _ h => h), (FreeR.no _), ?_⟩
        refine ⟨_, false, (fun σ ι w1 hg hd hon => by
            have f4 := hd 4 (by decide) _ rfl
            have e4 : σ 4 = _ := f4.1 trivial
            exact OpOK.sub (r := [(38, _), (0, _), (5, _), (6, _), (7, _), (8, _)]) ⟨congrArg some e4, rfl, rfl, rfl, rfl, rfl, trivial⟩ (by
              exact OpOK.eq (r_len Try.underlying22 rfl))
            ), (fun _ _ _ _ _ _ h => h), (FreeR.no _), ?_⟩
        refine ⟨_, false, (fun σ ι w1 hg hd hon => by
            have f3 := hd 3 (by decide) _ rfl
            have f5 := hd 5 (by decide) _ rfl
            have e3 : σ 3 = _ := f3.1 trivial
            have e5 : σ 5 = _ := f5.1 trivial
            exact OpOK.sub (r := [(37, _), (39, _), (0, _), (5, _), (6, _), (7, _), (8, _)]) ⟨congrArg some e3, congrArg some e5, rfl, rfl, rfl, rfl, rfl, trivial⟩ (by
              exact OpOK.eq (r_remk rfl rfl (by omega) (by omega)))
            ), (fun _ _ _ _ _ _ h => h), (FreeR.no _), ?_⟩
        refine ⟨_, false, (fun σ ι w1 hg hd hon => by
            exact OpOK.sub (r := [(0, _), (5, _), (6, _), (7, _), (8, _)]) ⟨rfl, rfl, rfl, rfl, rfl, trivial⟩ (by
              exact OpOK.eq (r_move rfl))
            ), (fun _ _ _ _ _ _ h => h), (FreeR.no _), ?_⟩
        refine ⟨_, false, (fun σ ι w1 hg hd hon => by
            exact OpOK.sub (r := [(0, _), (5, _), (6, _), (7, _), (8, _)]) ⟨rfl, rfl, rfl, rfl, rfl, trivial⟩ (by
              exact OpOK.eq (r_idxA Try.underlying25 sz24 rfl rfl (i := 0) rfl (by omega)))
            ), (fun _ _ _ _ _ _ h => h), (FreeR.no _), ?_⟩
        refine ⟨_, false, (fun σ ι w1 hg hd hon => by
            have hN := hN.ofGr ((Gr.refl _).drew.trans hg)
            have hB5 := hB5.gr ((Gr.refl _).drew.trans hg)
            have hBo := hBo.gr ((Gr.refl _).drew.trans hg)
            have f8 := hd 8 (by decide) _ rfl
            have e8 : σ 8 = _ := f8.1 trivial
            exact OpOK.sub (r := [(42, _), (0, _), (5, _), (6, _), (7, _), (8, _)]) ⟨congrArg some e8, rfl, rfl, rfl, rfl, rfl, trivial⟩ (by
              exact OpOK.eq (r_load sc24 rfl (hB5.cell rfl)))
            ), (fun _ _ _ _ _ _ h => h), (FreeR.no _), ?_⟩
        refine ⟨_, false, (fun σ ι w1 hg hd hon => by
            have f9 := hd 9 (by decide) _ rfl
            have e9 : σ 9 = _ := f9.1 trivial
            exact OpOK.sub (r := [(43, _), (0, _), (5, _), (6, _), (7, _), (8, _)]) ⟨congrArg some e9, rfl, rfl, rfl, rfl, rfl, trivial⟩ (by
              first | exact OpOK.eq (r_convk Try.underlying24 Try.underlying3 rfl (by simp only [InK]; omega)) | exact OpOK.eq (r_conv Try.underlying24 Try.underlying3 rfl))
            ), (fun _ _ _ _ _ _ h => h), (FreeR.no _), ?_⟩
        refine ⟨_, false, (fun σ ι w1 hg hd hon => by
            exact OpOK.sub (r := [(0, _), (5, _), (6, _), (7, _), (8, _)]) ⟨rfl, rfl, rfl, rfl, rfl, trivial⟩ (by
              exact OpOK.eq (r_move rfl))
            ), (fun _ _ _ _ _ _ h => h), (FreeR.no _), ?_⟩
        refine ⟨_, false, (fun σ ι w1 hg hd hon => by
            have f11 := hd 11 (by decide) _ rfl
            have e11 : σ 11 = _ := f11.1 trivial
            exact OpOK.sub (r := [(45, _), (0, _), (5, _), (6, _), (7, _), (8, _)]) ⟨congrArg some e11, rfl, rfl, rfl, rfl, rfl, trivial⟩ (by
              exact OpOK.eq (r_len Try.underlying22 rfl))
            ), (fun _ _ _ _ _ _ h => h), (FreeR.no _), ?_⟩
        refine ⟨_, false, (fun σ ι w1 hg hd hon => by
            have f10 := hd 10 (by decide) _ rfl
            have f12 := hd 12 (by decide) _ rfl
            have e10 : σ 10 = _ := f10.1 trivial
            have e12 : σ 12 = _ := f12.1 trivial
            exact OpOK.sub (r := [(44, _), (46, _), (0, _), (5, _), (6, _), (7, _), (8, _)]) ⟨congrArg some e10, congrArg some e12, rfl, rfl, rfl, rfl, rfl, trivial⟩ (by
              exact OpOK.eq (r_remk rfl rfl (by omega) (by omega)))
            ), (fun _ _ _ _ _ _ h => h), (FreeR.no _), ?_⟩
        refine ⟨_, false, (fun σ ι w1 hg hd hon => by
            have f7 := hd 7 (by decide) _ rfl
            have f13 := hd 13 (by decide) _ rfl
            have e7 : σ 7 = _ := f7.1 trivial
            have e13 : σ 13 = _ := f13.1 trivial
            exact OpOK.sub (r := [(41, _), (47, _), (0, _), (5, _), (6, _), (7, _), (8, _)]) ⟨congrArg some e7, congrArg some e13, rfl, rfl, rfl, rfl, rfl, trivial⟩ (by
              exact OpOK.eq (r_idx Try.underlying22 sz5 rfl rfl (i := n0) hn0 (by omega)))
            ), (fun _ _ _ _ _ _ h => h), (FreeR.no _), ?_⟩
        refine ⟨_, false, (fun σ ι w1 hg hd hon => by
            have hN := hN.ofGr ((Gr.refl _).drew.trans hg)
            have hB5 := hB5.gr ((Gr.refl _).drew.trans hg)
            have hBo := hBo.gr ((Gr.refl _).drew.trans hg)
            have f14 := hd 14 (by decide) _ rfl
            have e14 : σ 14 = _ := f14.1 trivial
            exact OpOK.sub (r := [(48, _), (0, _), (5, _), (6, _), (7, _), (8, _)]) ⟨congrArg some e14, rfl, rfl, rfl, rfl, rfl, trivial⟩ (by
              exact OpOK.eq (r_load sc5 rfl (hBo.cell (own_elem hn1))))
            ), (fun _ _ _ _ _ _ h => h), (FreeR.no _), ?_⟩
        refine ⟨_, false, (fun σ ι w1 hg hd hon => by
            exact OpOK.sub (r := [(0, _), (5, _), (6, _), (7, _), (8, _)]) ⟨rfl, rfl, rfl, rfl, rfl, trivial⟩ (by
              exact OpOK.eq (r_idxA Try.underlying25 sz24 rfl rfl (i := 1) rfl (by omega)))
            ), (fun _ _ _ _ _ _ h => h), (FreeR.no _), ?_⟩
        refine ⟨_, false, (fun σ ι w1 hg hd hon => by
            have hN := hN.ofGr ((Gr.refl _).drew.trans hg)
            have hB5 := hB5.gr ((Gr.refl _).drew.trans hg)
            have hBo := hBo.gr ((Gr.refl _).drew.trans hg)
            have f16 := hd 16 (by decide) _ rfl
            have e16 : σ 16 = _ := f16.1 trivial
            exact OpOK.sub (r := [(50, _), (0, _), (5, _), (6, _), (7, _), (8, _)]) ⟨congrArg some e16, rfl, rfl, rfl, rfl, rfl, trivial⟩ (by
              exact OpOK.eq (r_load sc24 rfl (hB5.cell rfl)))
            ), (fun _ _ _ _ _ _ h => h), (FreeR.no _), ?_⟩
        refine ⟨_, false, (fun σ ι w1 hg hd hon => by
            have f17 := hd 17 (by decide) _ rfl
            have e17 : σ 17 = _ := f17.1 trivial
            exact OpOK.sub (r := [(51, _), (0, _), (5, _), (6, _), (7, _), (8, _)]) ⟨congrArg some e17, rfl, rfl, rfl, rfl, rfl, trivial⟩ (by
              first | exact OpOK.eq (r_convk Try.underlying24 Try.underlying5 rfl (by simp only [InK]; omega)) | exact OpOK.eq (r_conv Try.underlying24 Try.underlying5 rfl))
            ), (fun _ _ _ _ _ _ h => h), (FreeR.no _), ?_⟩
        refine ⟨_, false, (fun σ ι w1 hg hd hon => by
            have f15 := hd 15 (by decide) _ rfl
            have f18 := hd 18 (by decide) _ rfl
            have e15 : σ 15 = _ := f15.1 trivial
            have e18 : σ 18 = _ := f18.1 trivial
            exact OpOK.sub (r := [(49, _), (52, _), (0, _), (5, _), (6, _), (7, _), (8, _)]) ⟨congrArg some e15, congrArg some e18, rfl, rfl, rfl, rfl, rfl, trivial⟩ (by
              exact OpOK.eq (r_xor rfl rfl))
            ), (fun _ _ _ _ _ _ h => h), (FreeR.no _), ?_⟩
        intro σ ι a21 w6 hgw6 H30 hd hap
        skip
        have hN0 := hN
        have hN := hN.ofGr ((Gr.refl _).drew.trans hgw6)
        replace hB5 := hB5.gr ((Gr.refl _).drew.trans hgw6)
        replace hBo := hBo.gr ((Gr.refl _).drew.trans hgw6)
        have e0 : σ 0 = _ := (hd 0 (by decide) _ rfl).1 trivial
        have e6 : σ 6 = _ := (hd 6 (by decide) _ rfl).1 trivial
        have e19 : σ 19 = _ := (hd 19 (by decide) _ rfl).1 trivial
        replace H30 := H30.sub (r := [(34, _), (40, _), (53, _), (0, _), (5, _), (6, _), (7, _), (8, _)]) ⟨congrArg some e0, congrArg some e6, congrArg some e19, rfl, rfl, rfl, rfl, rfl, trivial⟩
        clear hd
        clear hap
        rw [← hb] at H30
        refine wl1 H30 (r_idx Try.underlying22 sz5 rfl rfl (i := n0) hn0 (by omega)) rfl rfl rfl rfl fun a22 H31 => ?_
        clear H30 a21
        refine s_store H31 sz5 rfl rfl rfl hN hBo (by simp; omega) hgeo fun w7 hN hBo ew7 H32 => ?_
        clear H31
        replace hB5 := hB5.otherE ew7 (by omega)
        rw [own_set hn1] at hBo
        clear ew7
        refine wl_end ?_
        refine th_n ?_
        refine w_reg ?_
        refine wl1 H32 (r_move rfl) rfl rfl rfl rfl fun a23 H33 => ?_
        clear H32 a22
        refine wl1 H33 (r_move rfl) rfl rfl rfl rfl fun a24 H34 => ?_
        clear H33 a23
        refine wl1 H34 (r_len Try.underlying22 rfl) rfl rfl rfl rfl fun a25 H35 => ?_
        clear H34 a24
        refine wl1 H35 (r_idxA Try.underlying25 sz24 rfl rfl (i := 2) rfl (by omega)) rfl rfl rfl rfl fun a26 H36 => ?_
        clear H35 a25
        refine wl1 H36 (r_load sc24 rfl (hB5.cell rfl)) rfl rfl rfl rfl fun a27 H37 => ?_
        clear H36 a26
        first | refine wl1 H37 (r_convk Try.underlying24 Try.underlying3 rfl (by simp only [InK]; omega)) rfl rfl rfl rfl fun a28 H38 => ?_ | refine wl1 H37 (r_conv Try.underlying24 Try.underlying3 rfl) rfl rfl rfl rfl fun a28 H38 => ?_
        clear H37 a27
        refine wl1 H38 (r_move rfl) rfl rfl rfl rfl fun a29 H39 => ?_
        clear H38 a28
        refine wl1 H39 (r_len Try.underlying22 rfl) rfl rfl rfl rfl fun a30 H40 => ?_
        clear H39 a29
        refine wl1 H40 (r_remk rfl rfl (by omega) (by omega)) rfl rfl rfl rfl fun a31 H41 => ?_
        clear H40 a30
        rw [hn2] at H41
        first | refine wl1 H41 (r_subk rfl rfl (by simp only [InK]; omega)) rfl rfl rfl rfl fun a32 H42 => ?_ | refine wl1 H41 (r_sub rfl rfl) rfl rfl rfl rfl fun a32 H42 => ?_
        clear H41 a31
        obtain ⟨Kz7, hN, hEo, hleKz7, hsmKz7⟩ := hN.freezeRow hBo (Row.nums (own_setIn hk8 hx8)) hgeo (by simp; omega)
        replace hB5 := hB5.same (hsmKz7 _ (by omega))
        replace hA := hA.up hleKz7
        replace hX := hX.up hleKz7
        refine wl1 H42 (r_upto (hi := ol.length - n2) Try.underlying22 sz5 rfl rfl (by omega) (by omega)) rfl rfl rfl rfl fun a33 H43 => ?_
        clear H42 a32
        obtain ⟨pl, hpl⟩ : ∃ p, p = (ol.set n0 b).take (ol.length - n2) := ⟨_, rfl⟩
        have hpn : ol.length - n2 = pl.length := by rw [hpl, List.length_take, List.length_set]; omega
        have hE8 : Els (kInt .u8) Kz7 (some ⟨go, 0, none⟩) pl := by rw [hpl]; exact hEo.take _
        rw [hpn] at H43
        have hc8' : pl.length ≤ c8 := by omega
        have hp9 : pl.length ≤ 65536 := by omega
        refine wl1 H43 (r_assign rfl) rfl rfl rfl rfl fun a34 H44 => ?_
        clear H43 a33
        refine wl_end ?_
        refine th_n ?_
        refine wpIn_seq ?_
        refine w_reg ?_
        obtain ⟨B9, hBw⟩ : ∃ B, B = (w7).heap.size := ⟨_, rfl⟩
        have hlt5b := hB5.lt
        have hszB : B9 ≤ (w7).heap.size := Nat.le_of_eq hBw
        have hwB : w.heap.size ≤ B9 := by rw [hBw]; exact hN.gr.size
        refine s_lit1 (cs := []) H44 Try.underlying29 sz3 zv3 rfl rfl rfl (by simp [Value.oneCell']) rfl hN fun w9 l66 K9 hKl66 hlel66 hN nw9 hgel66 a35 H45 => ?_
        clear H44 a34
        replace hA := hA.up nw9.le
        replace hX := hX.up nw9.le
        replace hEo := hEo.up nw9.le
        replace hE8 := hE8.up nw9.le
        replace hB5 := hB5.next nw9
        replace hszB := Nat.le_trans hszB nw9.gr.size
        refine wl1 H45 (r_assign rfl) rfl rfl rfl rfl fun a36 H46 => ?_
        clear H45 a35
        refine wl_end ?_
        refine th_n ?_
        refine wpIn_seq ?_
        refine wpIn_seq ?_
        refine w_reg ?_
        refine wl1 H46 (r_assign rfl) rfl rfl rfl rfl fun a37 H47 => ?_
        clear H46 a36
        refine wl_end ?_
        refine th_n ?_
        refine wpIn_block ?_
        refine w_loop (ι := (Nat × Value) × Im) (fun xJ => (fun x => [(10, .int .i64 (x.1 : Int)), (9, x.2)]) xJ.1) (fun xJ W => Im.le K9 xJ.2 ∧ New I w xJ.2 W ∧ (fun x (J : Im) => x.1 ≤ n3 ∧ Box J W b5 [.int .u16 k0, .int .u16 k1, .int .u16 k2, .int .u16 k3] 25 ∧ B9 ≤ W.heap.size ∧ Apx (kInt .i64) J W B9 3 x.2 (rl k3 x.1)) xJ.1 xJ.2) (fun xJ => (fun x => n3 - x.1) xJ.1) (l0 := [(0, _), (5, _), (6, _), (7, _), (8, _)]) ((0, _), K9) H47 ⟨rfl, rfl, rfl, rfl, rfl, rfl, rfl, trivial⟩ ⟨Im.le.refl _, hN, Nat.zero_le _, hB5, hszB, .inr ⟨_, rfl, Els.nil _ _ _⟩⟩ ?_
        rintro ⟨⟨i, u⟩, J10⟩ a38 w10 H48 ⟨hleJ1, hN, hi, hB5, hszB, hO⟩
        clear H47 a37
        simp only [List.cons_append, List.nil_append] at H48
        try dsimp only at hleJ1
        try dsimp only at hN
        replace hA := hA.up hleJ1
        replace hX := hX.up hleJ1
        replace hEo := hEo.up hleJ1
        replace hE8 := hE8.up hleJ1
        simp only at hi hB5 hszB hO H48
        try dsimp only at hB5
        try dsimp only at hO
        try dsimp only at hi
        try dsimp only at hszB
        refine wpIn_seq ?_
        refine wpIn_seq ?_
        refine w_reg ?_
        refine wl1 H48 (r_move rfl) rfl rfl rfl rfl fun a39 H49 => ?_
        clear H48 a38
        refine wl1 H49 (r_idxA Try.underlying25 sz24 rfl rfl (i := 3) rfl (by omega)) rfl rfl rfl rfl fun a40 H50 => ?_
        clear H49 a39
        refine wl1 H50 (r_load sc24 rfl (hB5.cell rfl)) rfl rfl rfl rfl fun a41 H51 => ?_
        clear H50 a40
        refine wl1 H51 (r_remk rfl rfl (by omega) (by omega)) rfl rfl rfl rfl fun a42 H52 => ?_
        clear H51 a41
        rw [hn3] at H52
        first | refine wl1 H52 (r_convk Try.underlying24 Try.underlying3 rfl (by simp only [InK]; omega)) rfl rfl rfl rfl fun a43 H53 => ?_ | refine wl1 H52 (r_conv Try.underlying24 Try.underlying3 rfl) rfl rfl rfl rfl fun a43 H53 => ?_
        clear H52 a42
        refine wl1 H53 (r_lss rfl rfl) rfl rfl rfl rfl fun a44 H54 => ?_
        clear H53 a43
        refine wl_end ?_
        refine th_n ?_
        first | refine w_if H54 rfl (fun hc72 => ?_) (fun hc72 => ?_) | refine w_cond H54 rfl (fun hc72 => ?_) (fun hc72 => ?_)
        ·
          try simp only [decide_eq_true_eq, decide_eq_false_iff_not, Bool.or_eq_true, Bool.and_eq_true, Bool.or_eq_false_iff, Bool.and_eq_false_iff, Bool.not_eq_true', Bool.not_eq_false', Int.not_lt, Int.not_le, ne_eq, Decidable.not_not] at hc72
          refine wpIn_skip ?_
          refine th_n ?_
          refine wpIn_seq ?_
          refine wpIn_block ?_
          refine w_reg ?_
          refine wl1 H54 (r_move rfl) rfl rfl rfl rfl fun a45 H55 => ?_
          clear H54 a44
          refine wl1 H55 (r_move rfl) rfl rfl rfl rfl fun a46 H56 => ?_
          clear H55 a45
          first | refine wl1 H56 (r_mulk rfl rfl (by simp only [InK]; omega)) rfl rfl rfl rfl fun a47 H57 => ?_ | refine wl1 H56 (r_mul rfl rfl) rfl rfl rfl rfl fun a47 H57 => ?_
          clear H56 a46
          refine wl1 H57 (r_idxA Try.underlying25 sz24 rfl rfl (i := 3) rfl (by omega)) rfl rfl rfl rfl fun a48 H58 => ?_
          clear H57 a47
          refine wl1 H58 (r_load sc24 rfl (hB5.cell rfl)) rfl rfl rfl rfl fun a49 H59 => ?_
          clear H58 a48
          first | refine wl1 H59 (r_convk Try.underlying24 Try.underlying3 rfl (by simp only [InK]; omega)) rfl rfl rfl rfl fun a50 H60 => ?_ | refine wl1 H59 (r_conv Try.underlying24 Try.underlying3 rfl) rfl rfl rfl rfl fun a50 H60 => ?_
          clear H59 a49
          first | refine wl1 H60 (r_subk rfl rfl (by simp only [InK]; omega)) rfl rfl rfl rfl fun a51 H61 => ?_ | refine wl1 H60 (r_sub rfl rfl) rfl rfl rfl rfl fun a51 H61 => ?_
          clear H60 a50
          refine s_lit1 (cs := [_]) H61 Try.underlying29 sz3 zv3 rfl rfl rfl (by simp [Value.oneCell']) rfl hN fun w11 l82 K11 hKl82 hlel82 hN nw11 hgel82 a52 H62 => ?_
          clear H61 a51
          replace hA := hA.up nw11.le
          replace hX := hX.up nw11.le
          replace hEo := hEo.up nw11.le
          replace hE8 := hE8.up nw11.le
          replace hB5 := hB5.next nw11
          replace hO := hO.next nw11
          replace hleJ1 := hleJ1.trans nw11.le
          replace hszB := Nat.le_trans hszB nw11.gr.size
          have hE82 : Els (kInt .i64) K11 (some ⟨l82, 0, none⟩) [7 * (i : Int) - k3] := Els.nums hKl82 (by simp) (by simp only [List.mem_singleton, InK]; rintro x rfl; omega)
          refine s_app (B := B9) H62 rfl rfl Try.underlying29 nf3 rfl (by decide) (by decide) rfl hN hO hE82 rfl (by omega) hszB (by rw [rl_len]; omega) fun vw12 w12 hO hOO hOO2 kw12 hN a53 H63 => ?_
          clear H62 a52
          replace hB5 := hB5.keep kw12 (by omega)
          replace hszB := Nat.le_trans hszB kw12.size
          rw [← rl_succ] at hO
          refine wl1 H63 (r_assign rfl) rfl rfl rfl rfl fun a54 H64 => ?_
          clear H63 a53
          refine wl_end ?_
          refine bl_n ?_
          refine th_n ?_
          refine w_reg ?_
          refine wl1 H64 (r_move rfl) rfl rfl rfl rfl fun a55 H65 => ?_
          clear H64 a54
          first | refine wl1 H65 (r_addk rfl rfl (by simp only [InK]; omega)) rfl rfl rfl rfl fun a56 H66 => ?_ | refine wl1 H65 (r_add rfl rfl) rfl rfl rfl rfl fun a56 H66 => ?_
          clear H65 a55
          refine wl1 H66 (r_assign rfl) rfl rfl rfl rfl fun a57 H67 => ?_
          clear H66 a56
          refine wl_end ?_
          exact th_n ⟨((i + 1, _), K11), (by show n3 - (i + 1) < n3 - i; omega), H67.sub ⟨rfl, rfl, rfl, rfl, rfl, rfl, rfl, trivial⟩, hleJ1, hN, by show i + 1 ≤ n3; omega, hB5, hszB, hO⟩
        ·
          try simp only [decide_eq_true_eq, decide_eq_false_iff_not, Bool.or_eq_true, Bool.and_eq_true, Bool.or_eq_false_iff, Bool.and_eq_false_iff, Bool.not_eq_true', Bool.not_eq_false', Int.not_lt, Int.not_le, ne_eq, Decidable.not_not] at hc72
          rw [show i = n3 by omega] at H54 hO
          refine wpIn_exit ?_
          refine th_x ?_
          refine th_x ?_
          refine bl_hit ?_
          refine th_n ?_
          refine wpIn_seq ?_
          refine w_reg ?_
          obtain ⟨Kz12, Ar, cAr, hN, hleKz12, hsmKz12, rfl, hcAr, hEr⟩ := hO.freeze hN hwB
          replace hB5 := hB5.same (hsmKz12 _ (by omega))
          replace hA := hA.up hleKz12
          replace hX := hX.up hleKz12
          replace hEo := hEo.up hleKz12
          replace hE8 := hE8.up hleKz12
          replace hleJ1 := hleJ1.trans hleKz12
          refine wl1 H54 (r_move rfl) rfl rfl rfl rfl fun a45 H68 => ?_
          clear H54 a44
          obtain ⟨rr, hrr⟩ : ∃ r, r = rl k3 n3 := ⟨_, rfl⟩
          rw [← hrr] at H68 hEr hcAr
          refine wl1 H68 (r_move rfl) rfl rfl rfl rfl fun a46 H69 => ?_
          clear H68 a45
          refine s_lit1 (cs := [_, _]) H69 Try.underlying30 sz22 zv22 rfl rfl rfl (by simp [Value.oneCell']) rfl hN fun w14 l86 K14 hKl86 hlel86 hN nw14 hgel86 a47 H70 => ?_
          clear H69 a46
          replace hA := hA.up nw14.le
          replace hX := hX.up nw14.le
          replace hEo := hEo.up nw14.le
          replace hE8 := hE8.up nw14.le
          replace hEr := hEr.up nw14.le
          replace hB5 := hB5.next nw14
          replace hleJ1 := hleJ1.trans nw14.le
          replace hszB := Nat.le_trans hszB nw14.gr.size
          have hEall : Els (kSl (kInt .u8)) K14 (some ⟨l86, 0, none⟩) [l, pl] := Els.two (us := [_]) (vs := [_]) hKl86 ⟨_, _, rfl, hlc, hA⟩ ⟨_, _, rfl, hc8', hE8⟩
          refine wl1 H70 (r_assign rfl) rfl rfl rfl rfl fun a48 H71 => ?_
          clear H70 a47
          refine wl_end ?_
          refine th_n ?_
          refine wpIn_seq ?_
          refine wpIn_seq ?_
          refine w_reg ?_
          refine wl1 H71 (r_assign rfl) rfl rfl rfl rfl fun a49 H72 => ?_
          clear H71 a48
          refine wl_end ?_
          refine th_n ?_
          refine wpIn_block ?_
          refine w_loop (ι := (Nat) × Im) (fun xJ => (fun i => [(12, .int .i64 (i : Int))]) xJ.1) (fun xJ W => Im.le K14 xJ.2 ∧ New I w xJ.2 W ∧ (fun i (J : Im) => i ≤ 2 ∧ Box J W b5 [.int .u16 k0, .int .u16 k1, .int .u16 k2, .int .u16 k3] 25) xJ.1 xJ.2) (fun xJ => (fun i => 2 - i) xJ.1) (l0 := [(5, _), (7, _), (9, _), (11, _)]) (0, K14) H72 ⟨rfl, rfl, rfl, rfl, rfl, trivial⟩ ⟨Im.le.refl _, hN, Nat.zero_le _, hB5⟩ ?_
          rintro ⟨i, J15⟩ a50 w15 H73 ⟨hleJ2, hN, hi, hB5⟩
          clear H72 a49
          simp only [List.cons_append, List.nil_append] at H73
          try dsimp only at hleJ2
          try dsimp only at hN
          replace hA := hA.up hleJ2
          replace hX := hX.up hleJ2
          replace hEo := hEo.up hleJ2
          replace hE8 := hE8.up hleJ2
          replace hEr := hEr.up hleJ2
          replace hEall := hEall.up hleJ2
          replace hleJ1 := hleJ1.trans hleJ2
          simp only at hi hB5 H73
          try dsimp only at hB5
          try dsimp only at hi
          refine wpIn_seq ?_
          refine wpIn_seq ?_
          refine w_reg ?_
          refine wl1 H73 (r_move rfl) rfl rfl rfl rfl fun a51 H74 => ?_
          clear H73 a50
          refine wl1 H74 (r_move rfl) rfl rfl rfl rfl fun a52 H75 => ?_
          clear H74 a51
          refine wl1 H75 (r_len Try.underlying30 rfl) rfl rfl rfl rfl fun a53 H76 => ?_
          clear H75 a52
          refine wl1 H76 (r_lss rfl rfl) rfl rfl rfl rfl fun a54 H77 => ?_
          clear H76 a53
          refine wl_end ?_
          refine th_n ?_
          first | refine w_if H77 rfl (fun hc90 => ?_) (fun hc90 => ?_) | refine w_cond H77 rfl (fun hc90 => ?_) (fun hc90 => ?_)
          ·
            try simp only [decide_eq_true_eq, decide_eq_false_iff_not, Bool.or_eq_true, Bool.and_eq_true, Bool.or_eq_false_iff, Bool.and_eq_false_iff, Bool.not_eq_true', Bool.not_eq_false', Int.not_lt, Int.not_le, ne_eq, Decidable.not_not] at hc90
            have hi2 : i < [l, pl].length := by simp; omega
            obtain ⟨y, hy⟩ : ∃ y, y = ([l, pl] : List (List Int))[i]'hi2 := ⟨_, rfl⟩
            have hyl : y.length ≤ 65536 := by
              have hm := List.getElem_mem hi2
              rw [← hy] at hm
              simp only [List.mem_cons, List.mem_nil_iff, or_false] at hm
              rcases hm with h | h <;> rw [h] <;> omega
            have hoff := (@jall_off y 0).2
            refine wpIn_skip ?_
            refine th_n ?_
            refine wpIn_seq ?_
            refine wpIn_block ?_
            refine wpIn_seq ?_
            obtain ⟨Ax, cx, hcx, hlx, hEx⟩ := hEall.rowAt hi2
            rw [← hy] at hcx hlx hEx
            have hS0 := hN.sat
            have hNsz19 := hN.gr.size
            have hlt_hB5_19 := hB5.lt
            refine w_drawE (m := 12) (l0 := [(5, _), (7, _), (9, _), (11, _), (12, _)]) hfol H77 ⟨rfl, rfl, rfl, rfl, rfl, trivial⟩ (by kernel_rfl) ?_
            refine ⟨_, false, (fun σ ι w1 hg hd hon => by
                exact OpOK.sub (r := [(5, _), (7, _), (9, _), (11, _), (12, _)]) ⟨rfl, rfl, rfl, rfl, rfl, trivial⟩ (by
                  exact OpOK.eq (r_move rfl))
                ), (fun _ _ _ _ _ _ h => h), (FreeR.no _), ?_⟩
            refine ⟨_, false, (fun σ ι w1 hg hd hon => by
                exact OpOK.sub (r := [(5, _), (7, _), (9, _), (11, _), (12, _)]) ⟨rfl, rfl, rfl, rfl, rfl, trivial⟩ (by
                  exact OpOK.eq (r_move rfl))
                ), (fun _ _ _ _ _ _ h => h), (FreeR.no _), ?_⟩
            refine ⟨_, false, (fun σ ι w1 hg hd hon => by
                have f0 := hd 0 (by decide) _ rfl
                have f1 := hd 1 (by decide) _ rfl
                have e0 : σ 0 = _ := f0.1 trivial
                have e1 : σ 1 = _ := f1.1 trivial
                exact OpOK.sub (r := [(93, _), (94, _), (5, _), (7, _), (9, _), (11, _), (12, _)]) ⟨congrArg some e0, congrArg some e1, rfl, rfl, rfl, rfl, rfl, trivial⟩ (by
                  exact OpOK.eq (r_idx Try.underlying30 sz22 rfl rfl (i := i) rfl (by omega)))
                ), (fun _ _ _ _ _ _ h => h), (FreeR.no _), ?_⟩
            refine ⟨_, false, (fun σ ι w1 hg hd hon => by
                have hN := hN.ofGr ((Gr.refl _).drew.trans hg)
                have hB5 := hB5.gr ((Gr.refl _).drew.trans hg)
                have f2 := hd 2 (by decide) _ rfl
                have e2 : σ 2 = _ := f2.1 trivial
                exact OpOK.sub (r := [(95, _), (5, _), (7, _), (9, _), (11, _), (12, _)]) ⟨congrArg some e2, rfl, rfl, rfl, rfl, rfl, trivial⟩ (by
                  exact OpOK.eq (r_load sc22 rfl (hN.sat.cell hcx)))
                ), (fun _ _ _ _ _ _ h => h), (FreeR.no _), ?_⟩
            refine ⟨_, true, (fun σ ι w1 hg hd hon => by
                have hN := hN.ofGr ((Gr.refl _).drew.trans hg)
                have hB5 := hB5.gr ((Gr.refl _).drew.trans hg)
                have f3 := hd 3 (by decide) _ rfl
                have e3 : σ 3 = _ := f3.1 trivial
                skip
                exact CallOK.sub (r := [(96, _), (5, _), (7, _), (9, _), (11, _), (12, _)]) ⟨congrArg some e3, rfl, rfl, rfl, rfl, rfl, trivial⟩ (by
                  exact CallOK.M (Φ := LR y) (enters_of rfl rfl hb12) (lreadΦ (l := y) hN.sat hEx hlx (by omega)))
                ), (by exact monoOwn (J := J15) (Φ := fun _ => LR y)), (fun _ _ _ _ _ _ h => h), ?_⟩
            refine ⟨_, false, (fun σ ι w1 hg hd hon => by
                exact OpOK.sub (r := [(5, _), (7, _), (9, _), (11, _), (12, _)]) ⟨rfl, rfl, rfl, rfl, rfl, trivial⟩ (by
                  exact OpOK.eq (r_move rfl))
                ), (fun _ _ _ _ _ _ h => h), (FreeR.no _), ?_⟩
            refine ⟨_, false, (fun σ ι w1 hg hd hon => by
                exact OpOK.sub (r := [(5, _), (7, _), (9, _), (11, _), (12, _)]) ⟨rfl, rfl, rfl, rfl, rfl, trivial⟩ (by
                  exact OpOK.eq (r_move rfl))
                ), (fun _ _ _ _ _ _ h => h), (FreeR.no _), ?_⟩
            refine ⟨_, false, (fun σ ι w1 hg hd hon => by
                have f5 := hd 5 (by decide) _ rfl
                have f6 := hd 6 (by decide) _ rfl
                have e5 : σ 5 = _ := f5.1 trivial
                have e6 : σ 6 = _ := f6.1 trivial
                exact OpOK.sub (r := [(98, _), (99, _), (5, _), (7, _), (9, _), (11, _), (12, _)]) ⟨congrArg some e5, congrArg some e6, rfl, rfl, rfl, rfl, rfl, trivial⟩ (by
                  exact OpOK.eq (r_idx Try.underlying30 sz22 rfl rfl (i := i) rfl (by omega)))
                ), (fun _ _ _ _ _ _ h => h), (FreeR.no _), ?_⟩
            refine ⟨_, false, (fun σ ι w1 hg hd hon => by
                have hN := hN.ofGr ((Gr.refl _).drew.trans hg)
                have hB5 := hB5.gr ((Gr.refl _).drew.trans hg)
                have f7 := hd 7 (by decide) _ rfl
                have e7 : σ 7 = _ := f7.1 trivial
                exact OpOK.sub (r := [(100, _), (5, _), (7, _), (9, _), (11, _), (12, _)]) ⟨congrArg some e7, rfl, rfl, rfl, rfl, rfl, trivial⟩ (by
                  exact OpOK.eq (r_load sc22 rfl (hN.sat.cell hcx)))
                ), (fun _ _ _ _ _ _ h => h), (FreeR.no _), ?_⟩
            refine ⟨_, true, (fun σ ι w1 hg hd hon => by
                have hN := hN.ofGr ((Gr.refl _).drew.trans hg)
                have hB5 := hB5.gr ((Gr.refl _).drew.trans hg)
                have f8 := hd 8 (by decide) _ rfl
                have e8 : σ 8 = _ := f8.1 trivial
                skip
                exact CallOK.sub (r := [(101, _), (5, _), (7, _), (9, _), (11, _), (12, _)]) ⟨congrArg some e8, rfl, rfl, rfl, rfl, rfl, trivial⟩ (by
                  exact CallOK.M (Φ := RR y) (enters_of rfl rfl hb13) (rreadΦ (l := y) hN.sat hEx hlx (by omega)))
                ), (by exact monoOwn (J := J15) (Φ := fun _ => RR y)), (fun _ _ _ _ _ _ h => h), ?_⟩
            refine ⟨_, false, (fun σ ι w1 hg hd hon => by
                exact OpOK.sub (r := [(5, _), (7, _), (9, _), (11, _), (12, _)]) ⟨rfl, rfl, rfl, rfl, rfl, trivial⟩ (by exact OpOK.alloc (cs := [.slice none 0 0, .slice none 0 0, .int .i64 0, .int .i64 0, .int .u64 0]) zv34 rfl)
                ), (by intro σ v q w w' hg h; obtain ⟨h1, h2, h3⟩ := h; exact ⟨h1, h2, h3.gr hg⟩), (FreeR.no _), ?_⟩
            refine ⟨_, false, (fun σ ι w1 hg hd hon => by
                exact OpOK.sub (r := [(5, _), (7, _), (9, _), (11, _), (12, _)]) ⟨rfl, rfl, rfl, rfl, rfl, trivial⟩ (by exact OpOK.alloc (cs := [.slice none 0 0, .slice none 0 0, .int .i64 0, .int .i64 0, .int .u64 0]) zv34 rfl)
                ), (by intro σ v q w w' hg h; obtain ⟨h1, h2, h3⟩ := h; exact ⟨h1, h2, h3.gr hg⟩), (FreeR.no _), ?_⟩
            intro σ ι a55 w17 hgw17 H78 hd hap
            skip
            have hN0 := hN
            have hN := hN.ofGr ((Gr.refl _).drew.trans hgw17)
            have hNd := (New.refl (hS0.drewS)).ofGr hgw17
            obtain ⟨K4, hP4, A3a, c3a, A3b, c3b, e4, hc3a, hE3a, hc3b, hE3b⟩ := (hd 4 (by decide) _ rfl).1 trivial
            replace hE3a := hE3a.up (joinI_right hNd.sat hP4.sat)
            replace hE3b := hE3b.up (joinI_right hNd.sat hP4.sat)
            replace hNd := hNd.part hNd.le hP4 (hap.1 4 (by decide)).1
            obtain ⟨K9, hP9, A4a, c4a, A4b, c4b, e9, hc4a, hE4a, hc4b, hE4b⟩ := (hd 9 (by decide) _ rfl).1 trivial
            replace hE4a := hE4a.up (joinI_right hNd.sat hP9.sat)
            replace hE4b := hE4b.up (joinI_right hNd.sat hP9.sat)
            replace hE3a := hE3a.up (joinI_left (joinI J15 K4) K9)
            replace hE3b := hE3b.up (joinI_left (joinI J15 K4) K9)
            replace hNd := hNd.part hNd.le hP9 (hap.1 9 (by decide)).1
            replace hB5 := (hB5.gr (Gr.refl _).drew).next hNd
            replace hA := hA.up hNd.le
            replace hX := hX.up hNd.le
            replace hEo := hEo.up hNd.le
            replace hE8 := hE8.up hNd.le
            replace hEr := hEr.up hNd.le
            replace hEall := hEall.up hNd.le
            replace hleJ1 := hleJ1.trans hNd.le
            replace hleJ2 := hleJ2.trans hNd.le
            have hN := hN0.drew.trans hNd
            obtain ⟨e10, hlqb13, hblb13⟩ := (hd 10 (by decide) _ rfl).1 trivial
            have hg0b13 := (hap.1 10 (by decide)).1
            have hJ0b13 := hS0.fresh hg0b13
            have hB13 : Box (joinI (joinI J15 K4) K9) w17 _ [.slice none 0 0, .slice none 0 0, .int .i64 0, .int .i64 0, .int .u64 0] 34 := ⟨hblb13, (joinI_none (joinI_none hJ0b13 (hP4.none hJ0b13 (by have := hap.2 4 10 (by decide) (by decide) (by decide); omega))) (hP9.none hJ0b13 (by have := hap.2 9 10 (by decide) (by decide) (by decide); omega)))⟩
            obtain ⟨e11, hlqb14, hblb14⟩ := (hd 11 (by decide) _ rfl).1 trivial
            have hg0b14 := (hap.1 11 (by decide)).1
            have hJ0b14 := hS0.fresh hg0b14
            have hB14 : Box (joinI (joinI J15 K4) K9) w17 _ [.slice none 0 0, .slice none 0 0, .int .i64 0, .int .i64 0, .int .u64 0] 34 := ⟨hblb14, (joinI_none (joinI_none hJ0b14 (hP4.none hJ0b14 (by have := hap.2 4 11 (by decide) (by decide) (by decide); omega))) (hP9.none hJ0b14 (by have := hap.2 9 11 (by decide) (by decide) (by decide); omega)))⟩
            replace H78 := H78.sub (r := [(97, _), (102, _), (13, _), (14, _), (5, _), (7, _), (9, _), (11, _), (12, _)]) ⟨congrArg some e4, congrArg some e9, congrArg some e10, congrArg some e11, rfl, rfl, rfl, rfl, rfl, trivial⟩
            clear hd
            have hne_hB13_b14 : (ι 10).1 ≠ (ι 11).1 := by have := hap.2 10 11 (by decide) (by decide) (by decide); omega
            have hgeb13 := Nat.le_trans hNsz19 hg0b13
            clear hlqb13 hblb13 hJ0b13
            have hne_hB5_b13 := Nat.lt_of_lt_of_le hlt_hB5_19 hg0b13
            have hgeb14 := Nat.le_trans hNsz19 hg0b14
            clear hlqb14 hblb14 hJ0b14
            have hne_hB5_b14 := Nat.lt_of_lt_of_le hlt_hB5_19 hg0b14
            generalize (ι 10).1 = b13 at *
            generalize (ι 11).1 = b14 at *
            clear hap
            refine s_storeA (vs := [_, _, _, _, _]) H78 sz34 (by simp) (by simp [Value.oneCell']) rfl rfl hN hB13 (by simp) hgeb13 fun w18 hN hB13 ew18 H79 => ?_
            clear H78
            replace hB5 := hB5.otherE ew18 (by omega)
            replace hB14 := hB14.otherE ew18 (by omega)
            simp only [Nat.zero_add, Nat.add_zero, Nat.reduceAdd, Nat.reduceMul, List.set_cons_zero, List.set_cons_succ, spliceL] at hB13
            clear ew18
            refine s_storeA (vs := [_, _, _, _, _]) H79 sz34 (by simp) (by simp [Value.oneCell']) rfl rfl hN hB14 (by simp) hgeb14 fun w19 hN hB14 ew19 H80 => ?_
            clear H79
            replace hB5 := hB5.otherE ew19 (by omega)
            replace hB13 := hB13.otherE ew19 (by omega)
            simp only [Nat.zero_add, Nat.add_zero, Nat.reduceAdd, Nat.reduceMul, List.set_cons_zero, List.set_cons_succ, spliceL] at hB14
            clear ew19
            refine wl_end ?_
            refine th_n ?_
            refine wpIn_seq ?_
            obtain ⟨Ax, cx, hcx, hlx, hEx⟩ := hEall.rowAt hi2
            rw [← hy] at hcx hlx hEx
            have hS0 := hN.sat
            have hNsz20 := hN.gr.size
            have hlt_hB5_20 := hB5.lt
            have hlt_hB13_20 := hB13.lt
            have hlt_hB14_20 := hB14.lt
            refine w_drawE (m := 14) (l0 := [(5, _), (7, _), (9, _), (11, _), (12, _), (13, _), (14, _)]) hfol H80 ⟨rfl, rfl, rfl, rfl, rfl, rfl, rfl, trivial⟩ (by kernel_rfl) ?_
            refine ⟨_, false, (fun σ ι w1 hg hd hon => by
                exact OpOK.sub (r := [(5, _), (7, _), (9, _), (11, _), (12, _), (13, _), (14, _)]) ⟨rfl, rfl, rfl, rfl, rfl, rfl, rfl, trivial⟩ (by
                  exact OpOK.eq (r_move rfl))
                ), (fun _ _ _ _ _ _ h => h), (FreeR.no _), ?_⟩
            refine ⟨_, false, (fun σ ι w1 hg hd hon => by
                exact OpOK.sub (r := [(5, _), (7, _), (9, _), (11, _), (12, _), (13, _), (14, _)]) ⟨rfl, rfl, rfl, rfl, rfl, rfl, rfl, trivial⟩ (by
                  exact OpOK.eq (r_move rfl))
                ), (fun _ _ _ _ _ _ h => h), (FreeR.no _), ?_⟩
            refine ⟨_, false, (fun σ ι w1 hg hd hon => by
                have f0 := hd 0 (by decide) _ rfl
                have f1 := hd 1 (by decide) _ rfl
                have e0 : σ 0 = _ := f0.1 trivial
                have e1 : σ 1 = _ := f1.1 trivial
                exact OpOK.sub (r := [(103, _), (104, _), (5, _), (7, _), (9, _), (11, _), (12, _), (13, _), (14, _)]) ⟨congrArg some e0, congrArg some e1, rfl, rfl, rfl, rfl, rfl, rfl, rfl, trivial⟩ (by
                  exact OpOK.eq (r_idx Try.underlying30 sz22 rfl rfl (i := i) rfl (by omega)))
                ), (fun _ _ _ _ _ _ h => h), (FreeR.no _), ?_⟩
            refine ⟨_, false, (fun σ ι w1 hg hd hon => by
                have hN := hN.ofGr ((Gr.refl _).drew.trans hg)
                have hB5 := hB5.gr ((Gr.refl _).drew.trans hg)
                have hB13 := hB13.gr ((Gr.refl _).drew.trans hg)
                have hB14 := hB14.gr ((Gr.refl _).drew.trans hg)
                have f2 := hd 2 (by decide) _ rfl
                have e2 : σ 2 = _ := f2.1 trivial
                exact OpOK.sub (r := [(105, _), (5, _), (7, _), (9, _), (11, _), (12, _), (13, _), (14, _)]) ⟨congrArg some e2, rfl, rfl, rfl, rfl, rfl, rfl, rfl, trivial⟩ (by
                  exact OpOK.eq (r_load sc22 rfl (hN.sat.cell hcx)))
                ), (fun _ _ _ _ _ _ h => h), (FreeR.no _), ?_⟩
            refine ⟨_, false, (fun σ ι w1 hg hd hon => by
                exact OpOK.sub (r := [(5, _), (7, _), (9, _), (11, _), (12, _), (13, _), (14, _)]) ⟨rfl, rfl, rfl, rfl, rfl, rfl, rfl, trivial⟩ (by
                  exact OpOK.eq (r_move rfl))
                ), (fun _ _ _ _ _ _ h => h), (FreeR.no _), ?_⟩
            refine ⟨_, true, (fun σ ι w1 hg hd hon => by
                have hN := hN.ofGr ((Gr.refl _).drew.trans hg)
                have hB5 := hB5.gr ((Gr.refl _).drew.trans hg)
                have hB13 := hB13.gr ((Gr.refl _).drew.trans hg)
                have hB14 := hB14.gr ((Gr.refl _).drew.trans hg)
                have f3 := hd 3 (by decide) _ rfl
                have f4 := hd 4 (by decide) _ rfl
                have e3 : σ 3 = _ := f3.1 trivial
                have e4 : σ 4 = _ := f4.1 trivial
                skip
                exact CallOK.sub (r := [(106, _), (107, _), (5, _), (7, _), (9, _), (11, _), (12, _), (13, _), (14, _)]) ⟨congrArg some e3, congrArg some e4, rfl, rfl, rfl, rfl, rfl, rfl, rfl, trivial⟩ (by
                  exact CallOK.M (Φ := PR y rr) (enters_of rfl rfl hb14) (lputΦ (l := y) (rec := rr) hN.sat hEx hlx (by omega) hEr hcAr))
                ), (by exact monoOwn (J := (joinI (joinI J15 K4) K9)) (Φ := fun _ => PR y rr)), (fun _ _ _ _ _ _ h => h), ?_⟩
            refine ⟨_, false, (fun σ ι w1 hg hd hon => by
                exact OpOK.sub (r := [(5, _), (7, _), (9, _), (11, _), (12, _), (13, _), (14, _)]) ⟨rfl, rfl, rfl, rfl, rfl, rfl, rfl, trivial⟩ (by
                  exact OpOK.eq (r_move rfl))
                ), (fun _ _ _ _ _ _ h => h), (FreeR.no _), ?_⟩
            refine ⟨_, false, (fun σ ι w1 hg hd hon => by
                exact OpOK.sub (r := [(5, _), (7, _), (9, _), (11, _), (12, _), (13, _), (14, _)]) ⟨rfl, rfl, rfl, rfl, rfl, rfl, rfl, trivial⟩ (by
                  exact OpOK.eq (r_move rfl))
                ), (fun _ _ _ _ _ _ h => h), (FreeR.no _), ?_⟩
            refine ⟨_, false, (fun σ ι w1 hg hd hon => by
                have f6 := hd 6 (by decide) _ rfl
                have f7 := hd 7 (by decide) _ rfl
                have e6 : σ 6 = _ := f6.1 trivial
                have e7 : σ 7 = _ := f7.1 trivial
                exact OpOK.sub (r := [(109, _), (110, _), (5, _), (7, _), (9, _), (11, _), (12, _), (13, _), (14, _)]) ⟨congrArg some e6, congrArg some e7, rfl, rfl, rfl, rfl, rfl, rfl, rfl, trivial⟩ (by
                  exact OpOK.eq (r_idx Try.underlying30 sz22 rfl rfl (i := i) rfl (by omega)))
                ), (fun _ _ _ _ _ _ h => h), (FreeR.no _), ?_⟩
            refine ⟨_, false, (fun σ ι w1 hg hd hon => by
                have hN := hN.ofGr ((Gr.refl _).drew.trans hg)
                have hB5 := hB5.gr ((Gr.refl _).drew.trans hg)
                have hB13 := hB13.gr ((Gr.refl _).drew.trans hg)
                have hB14 := hB14.gr ((Gr.refl _).drew.trans hg)
                have f8 := hd 8 (by decide) _ rfl
                have e8 : σ 8 = _ := f8.1 trivial
                exact OpOK.sub (r := [(111, _), (5, _), (7, _), (9, _), (11, _), (12, _), (13, _), (14, _)]) ⟨congrArg some e8, rfl, rfl, rfl, rfl, rfl, rfl, rfl, trivial⟩ (by
                  exact OpOK.eq (r_load sc22 rfl (hN.sat.cell hcx)))
                ), (fun _ _ _ _ _ _ h => h), (FreeR.no _), ?_⟩
            refine ⟨_, false, (fun σ ι w1 hg hd hon => by
                exact OpOK.sub (r := [(5, _), (7, _), (9, _), (11, _), (12, _), (13, _), (14, _)]) ⟨rfl, rfl, rfl, rfl, rfl, rfl, rfl, trivial⟩ (by
                  exact OpOK.eq (r_move rfl))
                ), (fun _ _ _ _ _ _ h => h), (FreeR.no _), ?_⟩
            refine ⟨_, true, (fun σ ι w1 hg hd hon => by
                have hN := hN.ofGr ((Gr.refl _).drew.trans hg)
                have hB5 := hB5.gr ((Gr.refl _).drew.trans hg)
                have hB13 := hB13.gr ((Gr.refl _).drew.trans hg)
                have hB14 := hB14.gr ((Gr.refl _).drew.trans hg)
                have f9 := hd 9 (by decide) _ rfl
                have f10 := hd 10 (by decide) _ rfl
                have e9 : σ 9 = _ := f9.1 trivial
                have e10 : σ 10 = _ := f10.1 trivial
                skip
                exact CallOK.sub (r := [(112, _), (113, _), (5, _), (7, _), (9, _), (11, _), (12, _), (13, _), (14, _)]) ⟨congrArg some e9, congrArg some e10, rfl, rfl, rfl, rfl, rfl, rfl, rfl, trivial⟩ (by
                  exact CallOK.M (Φ := PR y rr) (enters_of rfl rfl hb15) (rputΦ (l := y) (rec := rr) hN.sat hEx hlx (by omega) hEr hcAr))
                ), (by exact monoOwn (J := (joinI (joinI J15 K4) K9)) (Φ := fun _ => PR y rr)), (fun _ _ _ _ _ _ h => h), ?_⟩
            refine ⟨_, false, (fun σ ι w1 hg hd hon => by
                exact OpOK.sub (r := [(5, _), (7, _), (9, _), (11, _), (12, _), (13, _), (14, _)]) ⟨rfl, rfl, rfl, rfl, rfl, rfl, rfl, trivial⟩ (by exact OpOK.alloc (cs := [.slice none 0 0, .int .i64 0]) zv37 rfl)
                ), (by intro σ v q w w' hg h; obtain ⟨h1, h2, h3⟩ := h; exact ⟨h1, h2, h3.gr hg⟩), (FreeR.no _), ?_⟩
            refine ⟨_, false, (fun σ ι w1 hg hd hon => by
                exact OpOK.sub (r := [(5, _), (7, _), (9, _), (11, _), (12, _), (13, _), (14, _)]) ⟨rfl, rfl, rfl, rfl, rfl, rfl, rfl, trivial⟩ (by exact OpOK.alloc (cs := [.slice none 0 0, .int .i64 0]) zv37 rfl)
                ), (by intro σ v q w w' hg h; obtain ⟨h1, h2, h3⟩ := h; exact ⟨h1, h2, h3.gr hg⟩), (FreeR.no _), ?_⟩
            intro σ ι a56 w21 hgw21 H81 hd hap
            skip
            have hN0 := hN
            have hN := hN.ofGr ((Gr.refl _).drew.trans hgw21)
            have hNd := (New.refl (hS0.drewS)).ofGr hgw21
            obtain ⟨K5, hP5, A5a, c5a, e5, hc5a, hE5a⟩ := (hd 5 (by decide) _ rfl).1 trivial
            replace hE5a := hE5a.up (joinI_right hNd.sat hP5.sat)
            replace hNd := hNd.part hNd.le hP5 (hap.1 5 (by decide)).1
            obtain ⟨K11, hP11, A6a, c6a, e11, hc6a, hE6a⟩ := (hd 11 (by decide) _ rfl).1 trivial
            replace hE6a := hE6a.up (joinI_right hNd.sat hP11.sat)
            replace hE5a := hE5a.up (joinI_left (joinI (joinI (joinI J15 K4) K9) K5) K11)
            replace hNd := hNd.part hNd.le hP11 (hap.1 11 (by decide)).1
            replace hB5 := (hB5.gr (Gr.refl _).drew).next hNd
            replace hB13 := (hB13.gr (Gr.refl _).drew).next hNd
            replace hB14 := (hB14.gr (Gr.refl _).drew).next hNd
            replace hA := hA.up hNd.le
            replace hX := hX.up hNd.le
            replace hEo := hEo.up hNd.le
            replace hE8 := hE8.up hNd.le
            replace hEr := hEr.up hNd.le
            replace hEall := hEall.up hNd.le
            replace hE3a := hE3a.up hNd.le
            replace hE3b := hE3b.up hNd.le
            replace hE4a := hE4a.up hNd.le
            replace hE4b := hE4b.up hNd.le
            replace hleJ1 := hleJ1.trans hNd.le
            replace hleJ2 := hleJ2.trans hNd.le
            have hN := hN0.drew.trans hNd
            obtain ⟨e12, hlqb15, hblb15⟩ := (hd 12 (by decide) _ rfl).1 trivial
            have hg0b15 := (hap.1 12 (by decide)).1
            have hJ0b15 := hS0.fresh hg0b15
            have hB15 : Box (joinI (joinI (joinI (joinI J15 K4) K9) K5) K11) w21 _ [.slice none 0 0, .int .i64 0] 37 := ⟨hblb15, (joinI_none (joinI_none hJ0b15 (hP5.none hJ0b15 (by have := hap.2 5 12 (by decide) (by decide) (by decide); omega))) (hP11.none hJ0b15 (by have := hap.2 11 12 (by decide) (by decide) (by decide); omega)))⟩
            obtain ⟨e13, hlqb16, hblb16⟩ := (hd 13 (by decide) _ rfl).1 trivial
            have hg0b16 := (hap.1 13 (by decide)).1
            have hJ0b16 := hS0.fresh hg0b16
            have hB16 : Box (joinI (joinI (joinI (joinI J15 K4) K9) K5) K11) w21 _ [.slice none 0 0, .int .i64 0] 37 := ⟨hblb16, (joinI_none (joinI_none hJ0b16 (hP5.none hJ0b16 (by have := hap.2 5 13 (by decide) (by decide) (by decide); omega))) (hP11.none hJ0b16 (by have := hap.2 11 13 (by decide) (by decide) (by decide); omega)))⟩
            replace H81 := H81.sub (r := [(108, _), (114, _), (15, _), (16, _), (5, _), (7, _), (9, _), (11, _), (12, _), (13, _), (14, _)]) ⟨congrArg some e5, congrArg some e11, congrArg some e12, congrArg some e13, rfl, rfl, rfl, rfl, rfl, rfl, rfl, trivial⟩
            clear hd
            have hne_hB15_b16 : (ι 12).1 ≠ (ι 13).1 := by have := hap.2 12 13 (by decide) (by decide) (by decide); omega
            have hgeb15 := Nat.le_trans hNsz20 hg0b15
            clear hlqb15 hblb15 hJ0b15
            have hne_hB5_b15 := Nat.lt_of_lt_of_le hlt_hB5_20 hg0b15
            have hne_hB13_b15 := Nat.lt_of_lt_of_le hlt_hB13_20 hg0b15
            have hne_hB14_b15 := Nat.lt_of_lt_of_le hlt_hB14_20 hg0b15
            have hgeb16 := Nat.le_trans hNsz20 hg0b16
            clear hlqb16 hblb16 hJ0b16
            have hne_hB5_b16 := Nat.lt_of_lt_of_le hlt_hB5_20 hg0b16
            have hne_hB13_b16 := Nat.lt_of_lt_of_le hlt_hB13_20 hg0b16
            have hne_hB14_b16 := Nat.lt_of_lt_of_le hlt_hB14_20 hg0b16
            generalize (ι 12).1 = b15 at *
            generalize (ι 13).1 = b16 at *
            clear hap
            refine s_storeA (vs := [_, _]) H81 sz37 (by simp) (by simp [Value.oneCell']) rfl rfl hN hB15 (by simp) hgeb15 fun w22 hN hB15 ew22 H82 => ?_
            clear H81
            replace hB5 := hB5.otherE ew22 (by omega)
            replace hB13 := hB13.otherE ew22 (by omega)
            replace hB14 := hB14.otherE ew22 (by omega)
            replace hB16 := hB16.otherE ew22 (by omega)
            simp only [Nat.zero_add, Nat.add_zero, Nat.reduceAdd, Nat.reduceMul, List.set_cons_zero, List.set_cons_succ, spliceL] at hB15
            clear ew22
            refine s_storeA (vs := [_, _]) H82 sz37 (by simp) (by simp [Value.oneCell']) rfl rfl hN hB16 (by simp) hgeb16 fun w23 hN hB16 ew23 H83 => ?_
            clear H82
            replace hB5 := hB5.otherE ew23 (by omega)
            replace hB13 := hB13.otherE ew23 (by omega)
            replace hB14 := hB14.otherE ew23 (by omega)
            replace hB15 := hB15.otherE ew23 (by omega)
            simp only [Nat.zero_add, Nat.add_zero, Nat.reduceAdd, Nat.reduceMul, List.set_cons_zero, List.set_cons_succ, spliceL] at hB16
            clear ew23
            refine wl_end ?_
            refine th_n ?_
            refine wpIn_seq ?_
            refine wpIn_seq ?_
            obtain ⟨Ax, cx, hcx, hlx, hEx⟩ := hEall.rowAt hi2
            rw [← hy] at hcx hlx hEx
            have hS0 := hN.sat
            have hNsz21 := hN.gr.size
            refine w_drawE (m := 50) (l0 := [(5, _), (7, _), (9, _), (11, _), (12, _), (13, _), (14, _), (15, _), (16, _)]) hfol H83 ⟨rfl, rfl, rfl, rfl, rfl, rfl, rfl, rfl, rfl, trivial⟩ (by kernel_rfl) ?_
            refine ⟨_, false, (fun σ ι w1 hg hd hon => by
                exact OpOK.sub (r := [(5, _), (7, _), (9, _), (11, _), (12, _), (13, _), (14, _), (15, _), (16, _)]) ⟨rfl, rfl, rfl, rfl, rfl, rfl, rfl, rfl, rfl, trivial⟩ (by
                  exact OpOK.eq (r_fld fld34_2 rfl))
                ), (fun _ _ _ _ _ _ h => h), (FreeR.no _), ?_⟩
            refine ⟨_, false, (fun σ ι w1 hg hd hon => by
                have hN := hN.ofGr ((Gr.refl _).drew.trans hg)
                have hB5 := hB5.gr ((Gr.refl _).drew.trans hg)
                have hB13 := hB13.gr ((Gr.refl _).drew.trans hg)
                have hB14 := hB14.gr ((Gr.refl _).drew.trans hg)
                have hB15 := hB15.gr ((Gr.refl _).drew.trans hg)
                have hB16 := hB16.gr ((Gr.refl _).drew.trans hg)
                have f0 := hd 0 (by decide) _ rfl
                have e0 : σ 0 = _ := f0.1 trivial
                exact OpOK.sub (r := [(115, _), (5, _), (7, _), (9, _), (11, _), (12, _), (13, _), (14, _), (15, _), (16, _)]) ⟨congrArg some e0, rfl, rfl, rfl, rfl, rfl, rfl, rfl, rfl, rfl, trivial⟩ (by
                  exact OpOK.eq (r_load sc31 rfl (hB13.cell rfl)))
                ), (fun _ _ _ _ _ _ h => h), (FreeR.no _), ?_⟩
            refine ⟨_, false, (fun σ ι w1 hg hd hon => by
                exact OpOK.sub (r := [(5, _), (7, _), (9, _), (11, _), (12, _), (13, _), (14, _), (15, _), (16, _)]) ⟨rfl, rfl, rfl, rfl, rfl, rfl, rfl, rfl, rfl, trivial⟩ (by
                  exact OpOK.eq (r_fld fld34_2 rfl))
                ), (fun _ _ _ _ _ _ h => h), (FreeR.no _), ?_⟩
            refine ⟨_, false, (fun σ ι w1 hg hd hon => by
                have hN := hN.ofGr ((Gr.refl _).drew.trans hg)
                have hB5 := hB5.gr ((Gr.refl _).drew.trans hg)
                have hB13 := hB13.gr ((Gr.refl _).drew.trans hg)
                have hB14 := hB14.gr ((Gr.refl _).drew.trans hg)
                have hB15 := hB15.gr ((Gr.refl _).drew.trans hg)
                have hB16 := hB16.gr ((Gr.refl _).drew.trans hg)
                have f2 := hd 2 (by decide) _ rfl
                have e2 : σ 2 = _ := f2.1 trivial
                exact OpOK.sub (r := [(117, _), (5, _), (7, _), (9, _), (11, _), (12, _), (13, _), (14, _), (15, _), (16, _)]) ⟨congrArg some e2, rfl, rfl, rfl, rfl, rfl, rfl, rfl, rfl, rfl, trivial⟩ (by
                  exact OpOK.eq (r_load sc31 rfl (hB14.cell rfl)))
                ), (fun _ _ _ _ _ _ h => h), (FreeR.no _), ?_⟩
            refine ⟨_, false, (fun σ ι w1 hg hd hon => by
                have f1 := hd 1 (by decide) _ rfl
                have f3 := hd 3 (by decide) _ rfl
                have e1 : σ 1 = _ := f1.1 trivial
                have e3 : σ 3 = _ := f3.1 trivial
                exact OpOK.sub (r := [(116, _), (118, _), (5, _), (7, _), (9, _), (11, _), (12, _), (13, _), (14, _), (15, _), (16, _)]) ⟨congrArg some e1, congrArg some e3, rfl, rfl, rfl, rfl, rfl, rfl, rfl, rfl, rfl, trivial⟩ (by
                  exact OpOK.eq (r_neq rfl rfl))
                ), (fun _ _ _ _ _ _ h => h), (FreeR.no _), ?_⟩
            refine ⟨_, false, (fun σ ι w1 hg hd hon => by
                have f4 := hd 4 (by decide) _ rfl
                have e4 : σ 4 = _ := f4.1 trivial
                exact OpOK.sub (r := [(119, _), (5, _), (7, _), (9, _), (11, _), (12, _), (13, _), (14, _), (15, _), (16, _)]) ⟨congrArg some e4, rfl, rfl, rfl, rfl, rfl, rfl, rfl, rfl, rfl, trivial⟩ (by
                  exact OpOK.eq (r_move rfl))
                ), (fun _ _ _ _ _ _ h => h), (FreeR.no _), ?_⟩
            refine ⟨_, false, (fun σ ι w1 hg hd hon => by
                have f5 := hd 5 (by decide) _ rfl
                have e5 : σ 5 = _ := f5.1 trivial
                have hgd : σ 5 = .bool false := hon
                have hgb := (f5.1 trivial : σ 5 = _).symm.trans hgd
                simp only [Value.bool.injEq] at hgb
                try simp only [decide_eq_true_eq, decide_eq_false_iff_not, Bool.or_eq_true, Bool.and_eq_true, Bool.or_eq_false_iff, Bool.and_eq_false_iff, Bool.not_eq_true', Bool.not_eq_false', Int.not_lt, Int.not_le, ne_eq, Decidable.not_not] at hgb
                exact OpOK.sub (r := [(5, _), (7, _), (9, _), (11, _), (12, _), (13, _), (14, _), (15, _), (16, _)]) ⟨rfl, rfl, rfl, rfl, rfl, rfl, rfl, rfl, rfl, trivial⟩ (by
                  exact OpOK.eq (r_fld fld34_0 rfl))
                ), (fun _ _ _ _ _ _ h => h), (FreeR.no _), ?_⟩
            refine ⟨_, false, (fun σ ι w1 hg hd hon => by
                have hN := hN.ofGr ((Gr.refl _).drew.trans hg)
                have hB5 := hB5.gr ((Gr.refl _).drew.trans hg)
                have hB13 := hB13.gr ((Gr.refl _).drew.trans hg)
                have hB14 := hB14.gr ((Gr.refl _).drew.trans hg)
                have hB15 := hB15.gr ((Gr.refl _).drew.trans hg)
                have hB16 := hB16.gr ((Gr.refl _).drew.trans hg)
                have f6 := hd 6 (by decide) _ rfl
                have f5 := hd 5 (by decide) _ rfl
                have e6 : σ 6 = _ := f6.1 hon
                have e5 : σ 5 = _ := f5.1 trivial
                have hgd : σ 5 = .bool false := hon
                have hgb := (f5.1 trivial : σ 5 = _).symm.trans hgd
                simp only [Value.bool.injEq] at hgb
                try simp only [decide_eq_true_eq, decide_eq_false_iff_not, Bool.or_eq_true, Bool.and_eq_true, Bool.or_eq_false_iff, Bool.and_eq_false_iff, Bool.not_eq_true', Bool.not_eq_false', Int.not_lt, Int.not_le, ne_eq, Decidable.not_not] at hgb
                exact OpOK.sub (r := [(121, _), (5, _), (7, _), (9, _), (11, _), (12, _), (13, _), (14, _), (15, _), (16, _)]) ⟨congrArg some e6, rfl, rfl, rfl, rfl, rfl, rfl, rfl, rfl, rfl, trivial⟩ (by
                  exact OpOK.eq (r_load sc23 rfl (hB13.cell rfl)))
                ), (fun _ _ _ _ _ _ h => h), (FreeR.no _), ?_⟩
            refine ⟨_, false, (fun σ ι w1 hg hd hon => by
                have f5 := hd 5 (by decide) _ rfl
                have e5 : σ 5 = _ := f5.1 trivial
                have hgd : σ 5 = .bool false := hon
                have hgb := (f5.1 trivial : σ 5 = _).symm.trans hgd
                simp only [Value.bool.injEq] at hgb
                try simp only [decide_eq_true_eq, decide_eq_false_iff_not, Bool.or_eq_true, Bool.and_eq_true, Bool.or_eq_false_iff, Bool.and_eq_false_iff, Bool.not_eq_true', Bool.not_eq_false', Int.not_lt, Int.not_le, ne_eq, Decidable.not_not] at hgb
                exact OpOK.sub (r := [(5, _), (7, _), (9, _), (11, _), (12, _), (13, _), (14, _), (15, _), (16, _)]) ⟨rfl, rfl, rfl, rfl, rfl, rfl, rfl, rfl, rfl, trivial⟩ (by
                  exact OpOK.eq (r_fld fld34_0 rfl))
                ), (fun _ _ _ _ _ _ h => h), (FreeR.no _), ?_⟩
            refine ⟨_, false, (fun σ ι w1 hg hd hon => by
                have hN := hN.ofGr ((Gr.refl _).drew.trans hg)
                have hB5 := hB5.gr ((Gr.refl _).drew.trans hg)
                have hB13 := hB13.gr ((Gr.refl _).drew.trans hg)
                have hB14 := hB14.gr ((Gr.refl _).drew.trans hg)
                have hB15 := hB15.gr ((Gr.refl _).drew.trans hg)
                have hB16 := hB16.gr ((Gr.refl _).drew.trans hg)
                have f8 := hd 8 (by decide) _ rfl
                have f5 := hd 5 (by decide) _ rfl
                have e8 : σ 8 = _ := f8.1 hon
                have e5 : σ 5 = _ := f5.1 trivial
                have hgd : σ 5 = .bool false := hon
                have hgb := (f5.1 trivial : σ 5 = _).symm.trans hgd
                simp only [Value.bool.injEq] at hgb
                try simp only [decide_eq_true_eq, decide_eq_false_iff_not, Bool.or_eq_true, Bool.and_eq_true, Bool.or_eq_false_iff, Bool.and_eq_false_iff, Bool.not_eq_true', Bool.not_eq_false', Int.not_lt, Int.not_le, ne_eq, Decidable.not_not] at hgb
                exact OpOK.sub (r := [(123, _), (5, _), (7, _), (9, _), (11, _), (12, _), (13, _), (14, _), (15, _), (16, _)]) ⟨congrArg some e8, rfl, rfl, rfl, rfl, rfl, rfl, rfl, rfl, rfl, trivial⟩ (by
                  exact OpOK.eq (r_load sc23 rfl (hB14.cell rfl)))
                ), (fun _ _ _ _ _ _ h => h), (FreeR.no _), ?_⟩
            refine ⟨_, true, (fun σ ι w1 hg hd hon => by
                have hN := hN.ofGr ((Gr.refl _).drew.trans hg)
                have hB5 := hB5.gr ((Gr.refl _).drew.trans hg)
                have hB13 := hB13.gr ((Gr.refl _).drew.trans hg)
                have hB14 := hB14.gr ((Gr.refl _).drew.trans hg)
                have hB15 := hB15.gr ((Gr.refl _).drew.trans hg)
                have hB16 := hB16.gr ((Gr.refl _).drew.trans hg)
                have f7 := hd 7 (by decide) _ rfl
                have f9 := hd 9 (by decide) _ rfl
                have f5 := hd 5 (by decide) _ rfl
                have e7 : σ 7 = _ := f7.1 hon
                have e9 : σ 9 = _ := f9.1 hon
                have e5 : σ 5 = _ := f5.1 trivial
                have hgd : σ 5 = .bool false := hon
                have hgb := (f5.1 trivial : σ 5 = _).symm.trans hgd
                simp only [Value.bool.injEq] at hgb
                try simp only [decide_eq_true_eq, decide_eq_false_iff_not, Bool.or_eq_true, Bool.and_eq_true, Bool.or_eq_false_iff, Bool.and_eq_false_iff, Bool.not_eq_true', Bool.not_eq_false', Int.not_lt, Int.not_le, ne_eq, Decidable.not_not] at hgb
                skip
                exact CallOK.sub (r := [(122, _), (124, _), (5, _), (7, _), (9, _), (11, _), (12, _), (13, _), (14, _), (15, _), (16, _)]) ⟨congrArg some e7, congrArg some e9, rfl, rfl, rfl, rfl, rfl, rfl, rfl, rfl, rfl, trivial⟩ (by
                  exact CallOK.V (enters_of rfl rfl hb16) (rrecords' hN.sat hE3a hE4a rfl rfl))
                ), (fun _ _ _ _ _ _ h => h), (fun _ _ _ _ _ _ h => h), ?_⟩
            refine ⟨_, false, (fun σ ι w1 hg hd hon => by
                have f10 := hd 10 (by decide) _ rfl
                have f5 := hd 5 (by decide) _ rfl
                have e10 : σ 10 = _ := f10.1 hon
                have e5 : σ 5 = _ := f5.1 trivial
                have hgd : σ 5 = .bool false := hon
                have hgb := (f5.1 trivial : σ 5 = _).symm.trans hgd
                simp only [Value.bool.injEq] at hgb
                try simp only [decide_eq_true_eq, decide_eq_false_iff_not, Bool.or_eq_true, Bool.and_eq_true, Bool.or_eq_false_iff, Bool.and_eq_false_iff, Bool.not_eq_true', Bool.not_eq_false', Int.not_lt, Int.not_le, ne_eq, Decidable.not_not] at hgb
                exact OpOK.sub (r := [(125, _), (5, _), (7, _), (9, _), (11, _), (12, _), (13, _), (14, _), (15, _), (16, _)]) ⟨congrArg some e10, rfl, rfl, rfl, rfl, rfl, rfl, rfl, rfl, rfl, trivial⟩ (by
                  exact OpOK.eq (r_not rfl))
                ), (fun _ _ _ _ _ _ h => h), (FreeR.no _), ?_⟩
            refine ⟨_, false, (fun σ ι w1 hg hd hon => by
                have f5 := hd 5 (by decide) _ rfl
                have f11 := hd 11 (by decide) _ rfl
                have e5 : σ 5 = _ := f5.1 trivial
                have ec : σ 5 = _ := f5.1 trivial
                exact OpOK.id (by refine OpOK.or (dc := 120) (dy := 126) (kc := σ 5) (ky := σ 11) ?_ ?_ ec (fun hb => f11.1 (by show σ 5 = _; rw [ec]; exact congrArg Value.bool hb)) <;> rfl)
                ), (fun _ _ _ _ _ _ h => h), (FreeR.no _), ?_⟩
            refine ⟨_, false, (fun σ ι w1 hg hd hon => by
                have f12 := hd 12 (by decide) _ rfl
                have e12 : σ 12 = _ := f12.1 trivial
                exact OpOK.sub (r := [(127, _), (5, _), (7, _), (9, _), (11, _), (12, _), (13, _), (14, _), (15, _), (16, _)]) ⟨congrArg some e12, rfl, rfl, rfl, rfl, rfl, rfl, rfl, rfl, rfl, trivial⟩ (by
                  exact OpOK.eq (r_move rfl))
                ), (fun _ _ _ _ _ _ h => h), (FreeR.no _), ?_⟩
            refine ⟨_, false, (fun σ ι w1 hg hd hon => by
                have f13 := hd 13 (by decide) _ rfl
                have e13 : σ 13 = _ := f13.1 trivial
                have hgd : σ 13 = .bool false := hon
                have hgb := (f13.1 trivial : σ 13 = _).symm.trans hgd
                simp only [Value.bool.injEq] at hgb
                try simp only [decide_eq_true_eq, decide_eq_false_iff_not, Bool.or_eq_true, Bool.and_eq_true, Bool.or_eq_false_iff, Bool.and_eq_false_iff, Bool.not_eq_true', Bool.not_eq_false', Int.not_lt, Int.not_le, ne_eq, Decidable.not_not] at hgb
                exact OpOK.sub (r := [(5, _), (7, _), (9, _), (11, _), (12, _), (13, _), (14, _), (15, _), (16, _)]) ⟨rfl, rfl, rfl, rfl, rfl, rfl, rfl, rfl, rfl, trivial⟩ (by
                  exact OpOK.eq (r_fld fld34_1 rfl))
                ), (fun _ _ _ _ _ _ h => h), (FreeR.no _), ?_⟩
            refine ⟨_, false, (fun σ ι w1 hg hd hon => by
                have hN := hN.ofGr ((Gr.refl _).drew.trans hg)
                have hB5 := hB5.gr ((Gr.refl _).drew.trans hg)
                have hB13 := hB13.gr ((Gr.refl _).drew.trans hg)
                have hB14 := hB14.gr ((Gr.refl _).drew.trans hg)
                have hB15 := hB15.gr ((Gr.refl _).drew.trans hg)
                have hB16 := hB16.gr ((Gr.refl _).drew.trans hg)
                have f14 := hd 14 (by decide) _ rfl
                have f13 := hd 13 (by decide) _ rfl
                have e14 : σ 14 = _ := f14.1 hon
                have e13 : σ 13 = _ := f13.1 trivial
                have hgd : σ 13 = .bool false := hon
                have hgb := (f13.1 trivial : σ 13 = _).symm.trans hgd
                simp only [Value.bool.injEq] at hgb
                try simp only [decide_eq_true_eq, decide_eq_false_iff_not, Bool.or_eq_true, Bool.and_eq_true, Bool.or_eq_false_iff, Bool.and_eq_false_iff, Bool.not_eq_true', Bool.not_eq_false', Int.not_lt, Int.not_le, ne_eq, Decidable.not_not] at hgb
                exact OpOK.sub (r := [(129, _), (5, _), (7, _), (9, _), (11, _), (12, _), (13, _), (14, _), (15, _), (16, _)]) ⟨congrArg some e14, rfl, rfl, rfl, rfl, rfl, rfl, rfl, rfl, rfl, trivial⟩ (by
                  exact OpOK.eq (r_load sc22 rfl (hB13.cell rfl)))
                ), (fun _ _ _ _ _ _ h => h), (FreeR.no _), ?_⟩
            refine ⟨_, false, (fun σ ι w1 hg hd hon => by
                have f13 := hd 13 (by decide) _ rfl
                have e13 : σ 13 = _ := f13.1 trivial
                have hgd : σ 13 = .bool false := hon
                have hgb := (f13.1 trivial : σ 13 = _).symm.trans hgd
                simp only [Value.bool.injEq] at hgb
                try simp only [decide_eq_true_eq, decide_eq_false_iff_not, Bool.or_eq_true, Bool.and_eq_true, Bool.or_eq_false_iff, Bool.and_eq_false_iff, Bool.not_eq_true', Bool.not_eq_false', Int.not_lt, Int.not_le, ne_eq, Decidable.not_not] at hgb
                exact OpOK.sub (r := [(5, _), (7, _), (9, _), (11, _), (12, _), (13, _), (14, _), (15, _), (16, _)]) ⟨rfl, rfl, rfl, rfl, rfl, rfl, rfl, rfl, rfl, trivial⟩ (by
                  exact OpOK.eq (r_fld fld34_1 rfl))
                ), (fun _ _ _ _ _ _ h => h), (FreeR.no _), ?_⟩
            refine ⟨_, false, (fun σ ι w1 hg hd hon => by
                have hN := hN.ofGr ((Gr.refl _).drew.trans hg)
                have hB5 := hB5.gr ((Gr.refl _).drew.trans hg)
                have hB13 := hB13.gr ((Gr.refl _).drew.trans hg)
                have hB14 := hB14.gr ((Gr.refl _).drew.trans hg)
                have hB15 := hB15.gr ((Gr.refl _).drew.trans hg)
                have hB16 := hB16.gr ((Gr.refl _).drew.trans hg)
                have f16 := hd 16 (by decide) _ rfl
                have f13 := hd 13 (by decide) _ rfl
                have e16 : σ 16 = _ := f16.1 hon
                have e13 : σ 13 = _ := f13.1 trivial
                have hgd : σ 13 = .bool false := hon
                have hgb := (f13.1 trivial : σ 13 = _).symm.trans hgd
                simp only [Value.bool.injEq] at hgb
                try simp only [decide_eq_true_eq, decide_eq_false_iff_not, Bool.or_eq_true, Bool.and_eq_true, Bool.or_eq_false_iff, Bool.and_eq_false_iff, Bool.not_eq_true', Bool.not_eq_false', Int.not_lt, Int.not_le, ne_eq, Decidable.not_not] at hgb
                exact OpOK.sub (r := [(131, _), (5, _), (7, _), (9, _), (11, _), (12, _), (13, _), (14, _), (15, _), (16, _)]) ⟨congrArg some e16, rfl, rfl, rfl, rfl, rfl, rfl, rfl, rfl, rfl, trivial⟩ (by
                  exact OpOK.eq (r_load sc22 rfl (hB14.cell rfl)))
                ), (fun _ _ _ _ _ _ h => h), (FreeR.no _), ?_⟩
            refine ⟨_, true, (fun σ ι w1 hg hd hon => by
                have hN := hN.ofGr ((Gr.refl _).drew.trans hg)
                have hB5 := hB5.gr ((Gr.refl _).drew.trans hg)
                have hB13 := hB13.gr ((Gr.refl _).drew.trans hg)
                have hB14 := hB14.gr ((Gr.refl _).drew.trans hg)
                have hB15 := hB15.gr ((Gr.refl _).drew.trans hg)
                have hB16 := hB16.gr ((Gr.refl _).drew.trans hg)
                have f15 := hd 15 (by decide) _ rfl
                have f17 := hd 17 (by decide) _ rfl
                have f13 := hd 13 (by decide) _ rfl
                have e15 : σ 15 = _ := f15.1 hon
                have e17 : σ 17 = _ := f17.1 hon
                have e13 : σ 13 = _ := f13.1 trivial
                have hgd : σ 13 = .bool false := hon
                have hgb := (f13.1 trivial : σ 13 = _).symm.trans hgd
                simp only [Value.bool.injEq] at hgb
                try simp only [decide_eq_true_eq, decide_eq_false_iff_not, Bool.or_eq_true, Bool.and_eq_true, Bool.or_eq_false_iff, Bool.and_eq_false_iff, Bool.not_eq_true', Bool.not_eq_false', Int.not_lt, Int.not_le, ne_eq, Decidable.not_not] at hgb
                skip
                exact CallOK.sub (r := [(130, _), (132, _), (5, _), (7, _), (9, _), (11, _), (12, _), (13, _), (14, _), (15, _), (16, _)]) ⟨congrArg some e15, congrArg some e17, rfl, rfl, rfl, rfl, rfl, rfl, rfl, rfl, rfl, trivial⟩ (by
                  exact CallOK.V (enters_of rfl rfl hb17) (rsame8' hN.sat hE3b hE4b (by simp) (by simp)))
                ), (fun _ _ _ _ _ _ h => h), (fun _ _ _ _ _ _ h => h), ?_⟩
            refine ⟨_, false, (fun σ ι w1 hg hd hon => by
                have f18 := hd 18 (by decide) _ rfl
                have f13 := hd 13 (by decide) _ rfl
                have e18 : σ 18 = _ := f18.1 hon
                have e13 : σ 13 = _ := f13.1 trivial
                have hgd : σ 13 = .bool false := hon
                have hgb := (f13.1 trivial : σ 13 = _).symm.trans hgd
                simp only [Value.bool.injEq] at hgb
                try simp only [decide_eq_true_eq, decide_eq_false_iff_not, Bool.or_eq_true, Bool.and_eq_true, Bool.or_eq_false_iff, Bool.and_eq_false_iff, Bool.not_eq_true', Bool.not_eq_false', Int.not_lt, Int.not_le, ne_eq, Decidable.not_not] at hgb
                exact OpOK.sub (r := [(133, _), (5, _), (7, _), (9, _), (11, _), (12, _), (13, _), (14, _), (15, _), (16, _)]) ⟨congrArg some e18, rfl, rfl, rfl, rfl, rfl, rfl, rfl, rfl, rfl, trivial⟩ (by
                  exact OpOK.eq (r_not rfl))
                ), (fun _ _ _ _ _ _ h => h), (FreeR.no _), ?_⟩
            refine ⟨_, false, (fun σ ι w1 hg hd hon => by
                have f13 := hd 13 (by decide) _ rfl
                have f19 := hd 19 (by decide) _ rfl
                have e13 : σ 13 = _ := f13.1 trivial
                have ec : σ 13 = _ := f13.1 trivial
                exact OpOK.id (by refine OpOK.or (dc := 128) (dy := 134) (kc := σ 13) (ky := σ 19) ?_ ?_ ec (fun hb => f19.1 (by show σ 13 = _; rw [ec]; exact congrArg Value.bool hb)) <;> rfl)
                ), (fun _ _ _ _ _ _ h => h), (FreeR.no _), ?_⟩
            refine ⟨_, false, (fun σ ι w1 hg hd hon => by
                have f20 := hd 20 (by decide) _ rfl
                have e20 : σ 20 = _ := f20.1 trivial
                exact OpOK.sub (r := [(135, _), (5, _), (7, _), (9, _), (11, _), (12, _), (13, _), (14, _), (15, _), (16, _)]) ⟨congrArg some e20, rfl, rfl, rfl, rfl, rfl, rfl, rfl, rfl, rfl, trivial⟩ (by
                  exact OpOK.eq (r_move rfl))
                ), (fun _ _ _ _ _ _ h => h), (FreeR.no _), ?_⟩
            refine ⟨_, false, (fun σ ι w1 hg hd hon => by
                have f21 := hd 21 (by decide) _ rfl
                have e21 : σ 21 = _ := f21.1 trivial
                have hgd : σ 21 = .bool false := hon
                have hgb := (f21.1 trivial : σ 21 = _).symm.trans hgd
                simp only [Value.bool.injEq] at hgb
                try simp only [decide_eq_true_eq, decide_eq_false_iff_not, Bool.or_eq_true, Bool.and_eq_true, Bool.or_eq_false_iff, Bool.and_eq_false_iff, Bool.not_eq_true', Bool.not_eq_false', Int.not_lt, Int.not_le, ne_eq, Decidable.not_not] at hgb
                exact OpOK.sub (r := [(5, _), (7, _), (9, _), (11, _), (12, _), (13, _), (14, _), (15, _), (16, _)]) ⟨rfl, rfl, rfl, rfl, rfl, rfl, rfl, rfl, rfl, trivial⟩ (by
                  exact OpOK.eq (r_fld fld37_1 rfl))
                ), (fun _ _ _ _ _ _ h => h), (FreeR.no _), ?_⟩
            refine ⟨_, false, (fun σ ι w1 hg hd hon => by
                have hN := hN.ofGr ((Gr.refl _).drew.trans hg)
                have hB5 := hB5.gr ((Gr.refl _).drew.trans hg)
                have hB13 := hB13.gr ((Gr.refl _).drew.trans hg)
                have hB14 := hB14.gr ((Gr.refl _).drew.trans hg)
                have hB15 := hB15.gr ((Gr.refl _).drew.trans hg)
                have hB16 := hB16.gr ((Gr.refl _).drew.trans hg)
                have f22 := hd 22 (by decide) _ rfl
                have f21 := hd 21 (by decide) _ rfl
                have e22 : σ 22 = _ := f22.1 hon
                have e21 : σ 21 = _ := f21.1 trivial
                have hgd : σ 21 = .bool false := hon
                have hgb := (f21.1 trivial : σ 21 = _).symm.trans hgd
                simp only [Value.bool.injEq] at hgb
                try simp only [decide_eq_true_eq, decide_eq_false_iff_not, Bool.or_eq_true, Bool.and_eq_true, Bool.or_eq_false_iff, Bool.and_eq_false_iff, Bool.not_eq_true', Bool.not_eq_false', Int.not_lt, Int.not_le, ne_eq, Decidable.not_not] at hgb
                exact OpOK.sub (r := [(137, _), (5, _), (7, _), (9, _), (11, _), (12, _), (13, _), (14, _), (15, _), (16, _)]) ⟨congrArg some e22, rfl, rfl, rfl, rfl, rfl, rfl, rfl, rfl, rfl, trivial⟩ (by
                  exact OpOK.eq (r_load sc31 rfl (hB15.cell rfl)))
                ), (fun _ _ _ _ _ _ h => h), (FreeR.no _), ?_⟩
            refine ⟨_, false, (fun σ ι w1 hg hd hon => by
                have f21 := hd 21 (by decide) _ rfl
                have e21 : σ 21 = _ := f21.1 trivial
                have hgd : σ 21 = .bool false := hon
                have hgb := (f21.1 trivial : σ 21 = _).symm.trans hgd
                simp only [Value.bool.injEq] at hgb
                try simp only [decide_eq_true_eq, decide_eq_false_iff_not, Bool.or_eq_true, Bool.and_eq_true, Bool.or_eq_false_iff, Bool.and_eq_false_iff, Bool.not_eq_true', Bool.not_eq_false', Int.not_lt, Int.not_le, ne_eq, Decidable.not_not] at hgb
                exact OpOK.sub (r := [(5, _), (7, _), (9, _), (11, _), (12, _), (13, _), (14, _), (15, _), (16, _)]) ⟨rfl, rfl, rfl, rfl, rfl, rfl, rfl, rfl, rfl, trivial⟩ (by
                  exact OpOK.eq (r_fld fld37_1 rfl))
                ), (fun _ _ _ _ _ _ h => h), (FreeR.no _), ?_⟩
            refine ⟨_, false, (fun σ ι w1 hg hd hon => by
                have hN := hN.ofGr ((Gr.refl _).drew.trans hg)
                have hB5 := hB5.gr ((Gr.refl _).drew.trans hg)
                have hB13 := hB13.gr ((Gr.refl _).drew.trans hg)
                have hB14 := hB14.gr ((Gr.refl _).drew.trans hg)
                have hB15 := hB15.gr ((Gr.refl _).drew.trans hg)
                have hB16 := hB16.gr ((Gr.refl _).drew.trans hg)
                have f24 := hd 24 (by decide) _ rfl
                have f21 := hd 21 (by decide) _ rfl
                have e24 : σ 24 = _ := f24.1 hon
                have e21 : σ 21 = _ := f21.1 trivial
                have hgd : σ 21 = .bool false := hon
                have hgb := (f21.1 trivial : σ 21 = _).symm.trans hgd
                simp only [Value.bool.injEq] at hgb
                try simp only [decide_eq_true_eq, decide_eq_false_iff_not, Bool.or_eq_true, Bool.and_eq_true, Bool.or_eq_false_iff, Bool.and_eq_false_iff, Bool.not_eq_true', Bool.not_eq_false', Int.not_lt, Int.not_le, ne_eq, Decidable.not_not] at hgb
                exact OpOK.sub (r := [(139, _), (5, _), (7, _), (9, _), (11, _), (12, _), (13, _), (14, _), (15, _), (16, _)]) ⟨congrArg some e24, rfl, rfl, rfl, rfl, rfl, rfl, rfl, rfl, rfl, trivial⟩ (by
                  exact OpOK.eq (r_load sc31 rfl (hB16.cell rfl)))
                ), (fun _ _ _ _ _ _ h => h), (FreeR.no _), ?_⟩
            refine ⟨_, false, (fun σ ι w1 hg hd hon => by
                have f23 := hd 23 (by decide) _ rfl
                have f25 := hd 25 (by decide) _ rfl
                have f21 := hd 21 (by decide) _ rfl
                have e23 : σ 23 = _ := f23.1 hon
                have e25 : σ 25 = _ := f25.1 hon
                have e21 : σ 21 = _ := f21.1 trivial
                have hgd : σ 21 = .bool false := hon
                have hgb := (f21.1 trivial : σ 21 = _).symm.trans hgd
                simp only [Value.bool.injEq] at hgb
                try simp only [decide_eq_true_eq, decide_eq_false_iff_not, Bool.or_eq_true, Bool.and_eq_true, Bool.or_eq_false_iff, Bool.and_eq_false_iff, Bool.not_eq_true', Bool.not_eq_false', Int.not_lt, Int.not_le, ne_eq, Decidable.not_not] at hgb
                exact OpOK.sub (r := [(138, _), (140, _), (5, _), (7, _), (9, _), (11, _), (12, _), (13, _), (14, _), (15, _), (16, _)]) ⟨congrArg some e23, congrArg some e25, rfl, rfl, rfl, rfl, rfl, rfl, rfl, rfl, rfl, trivial⟩ (by
                  exact OpOK.eq (r_neq rfl rfl))
                ), (fun _ _ _ _ _ _ h => h), (FreeR.no _), ?_⟩
            refine ⟨_, false, (fun σ ι w1 hg hd hon => by
                have f21 := hd 21 (by decide) _ rfl
                have f26 := hd 26 (by decide) _ rfl
                have e21 : σ 21 = _ := f21.1 trivial
                have ec : σ 21 = _ := f21.1 trivial
                exact OpOK.id (by refine OpOK.or (dc := 136) (dy := 141) (kc := σ 21) (ky := σ 26) ?_ ?_ ec (fun hb => f26.1 (by show σ 21 = _; rw [ec]; exact congrArg Value.bool hb)) <;> rfl)
                ), (fun _ _ _ _ _ _ h => h), (FreeR.no _), ?_⟩
            refine ⟨_, false, (fun σ ι w1 hg hd hon => by
                have f27 := hd 27 (by decide) _ rfl
                have e27 : σ 27 = _ := f27.1 trivial
                exact OpOK.sub (r := [(142, _), (5, _), (7, _), (9, _), (11, _), (12, _), (13, _), (14, _), (15, _), (16, _)]) ⟨congrArg some e27, rfl, rfl, rfl, rfl, rfl, rfl, rfl, rfl, rfl, trivial⟩ (by
                  exact OpOK.eq (r_move rfl))
                ), (fun _ _ _ _ _ _ h => h), (FreeR.no _), ?_⟩
            refine ⟨_, false, (fun σ ι w1 hg hd hon => by
                have f28 := hd 28 (by decide) _ rfl
                have e28 : σ 28 = _ := f28.1 trivial
                have hgd : σ 28 = .bool false := hon
                have hgb := (f28.1 trivial : σ 28 = _).symm.trans hgd
                simp only [Value.bool.injEq] at hgb
                try simp only [decide_eq_true_eq, decide_eq_false_iff_not, Bool.or_eq_true, Bool.and_eq_true, Bool.or_eq_false_iff, Bool.and_eq_false_iff, Bool.not_eq_true', Bool.not_eq_false', Int.not_lt, Int.not_le, ne_eq, Decidable.not_not] at hgb
                exact OpOK.sub (r := [(5, _), (7, _), (9, _), (11, _), (12, _), (13, _), (14, _), (15, _), (16, _)]) ⟨rfl, rfl, rfl, rfl, rfl, rfl, rfl, rfl, rfl, trivial⟩ (by
                  exact OpOK.eq (r_fld fld37_0 rfl))
                ), (fun _ _ _ _ _ _ h => h), (FreeR.no _), ?_⟩
            refine ⟨_, false, (fun σ ι w1 hg hd hon => by
                have hN := hN.ofGr ((Gr.refl _).drew.trans hg)
                have hB5 := hB5.gr ((Gr.refl _).drew.trans hg)
                have hB13 := hB13.gr ((Gr.refl _).drew.trans hg)
                have hB14 := hB14.gr ((Gr.refl _).drew.trans hg)
                have hB15 := hB15.gr ((Gr.refl _).drew.trans hg)
                have hB16 := hB16.gr ((Gr.refl _).drew.trans hg)
                have f29 := hd 29 (by decide) _ rfl
                have f28 := hd 28 (by decide) _ rfl
                have e29 : σ 29 = _ := f29.1 hon
                have e28 : σ 28 = _ := f28.1 trivial
                have hgd : σ 28 = .bool false := hon
                have hgb := (f28.1 trivial : σ 28 = _).symm.trans hgd
                simp only [Value.bool.injEq] at hgb
                try simp only [decide_eq_true_eq, decide_eq_false_iff_not, Bool.or_eq_true, Bool.and_eq_true, Bool.or_eq_false_iff, Bool.and_eq_false_iff, Bool.not_eq_true', Bool.not_eq_false', Int.not_lt, Int.not_le, ne_eq, Decidable.not_not] at hgb
                exact OpOK.sub (r := [(144, _), (5, _), (7, _), (9, _), (11, _), (12, _), (13, _), (14, _), (15, _), (16, _)]) ⟨congrArg some e29, rfl, rfl, rfl, rfl, rfl, rfl, rfl, rfl, rfl, trivial⟩ (by
                  exact OpOK.eq (r_load sc22 rfl (hB15.cell rfl)))
                ), (fun _ _ _ _ _ _ h => h), (FreeR.no _), ?_⟩
            refine ⟨_, false, (fun σ ι w1 hg hd hon => by
                have f28 := hd 28 (by decide) _ rfl
                have e28 : σ 28 = _ := f28.1 trivial
                have hgd : σ 28 = .bool false := hon
                have hgb := (f28.1 trivial : σ 28 = _).symm.trans hgd
                simp only [Value.bool.injEq] at hgb
                try simp only [decide_eq_true_eq, decide_eq_false_iff_not, Bool.or_eq_true, Bool.and_eq_true, Bool.or_eq_false_iff, Bool.and_eq_false_iff, Bool.not_eq_true', Bool.not_eq_false', Int.not_lt, Int.not_le, ne_eq, Decidable.not_not] at hgb
                exact OpOK.sub (r := [(5, _), (7, _), (9, _), (11, _), (12, _), (13, _), (14, _), (15, _), (16, _)]) ⟨rfl, rfl, rfl, rfl, rfl, rfl, rfl, rfl, rfl, trivial⟩ (by
                  exact OpOK.eq (r_fld fld37_0 rfl))
                ), (fun _ _ _ _ _ _ h => h), (FreeR.no _), ?_⟩
            refine ⟨_, false, (fun σ ι w1 hg hd hon => by
                have hN := hN.ofGr ((Gr.refl _).drew.trans hg)
                have hB5 := hB5.gr ((Gr.refl _).drew.trans hg)
                have hB13 := hB13.gr ((Gr.refl _).drew.trans hg)
                have hB14 := hB14.gr ((Gr.refl _).drew.trans hg)
                have hB15 := hB15.gr ((Gr.refl _).drew.trans hg)
                have hB16 := hB16.gr ((Gr.refl _).drew.trans hg)
                have f31 := hd 31 (by decide) _ rfl
                have f28 := hd 28 (by decide) _ rfl
                have e31 : σ 31 = _ := f31.1 hon
                have e28 : σ 28 = _ := f28.1 trivial
                have hgd : σ 28 = .bool false := hon
                have hgb := (f28.1 trivial : σ 28 = _).symm.trans hgd
                simp only [Value.bool.injEq] at hgb
                try simp only [decide_eq_true_eq, decide_eq_false_iff_not, Bool.or_eq_true, Bool.and_eq_true, Bool.or_eq_false_iff, Bool.and_eq_false_iff, Bool.not_eq_true', Bool.not_eq_false', Int.not_lt, Int.not_le, ne_eq, Decidable.not_not] at hgb
                exact OpOK.sub (r := [(146, _), (5, _), (7, _), (9, _), (11, _), (12, _), (13, _), (14, _), (15, _), (16, _)]) ⟨congrArg some e31, rfl, rfl, rfl, rfl, rfl, rfl, rfl, rfl, rfl, trivial⟩ (by
                  exact OpOK.eq (r_load sc22 rfl (hB16.cell rfl)))
                ), (fun _ _ _ _ _ _ h => h), (FreeR.no _), ?_⟩
            refine ⟨_, true, (fun σ ι w1 hg hd hon => by
                have hN := hN.ofGr ((Gr.refl _).drew.trans hg)
                have hB5 := hB5.gr ((Gr.refl _).drew.trans hg)
                have hB13 := hB13.gr ((Gr.refl _).drew.trans hg)
                have hB14 := hB14.gr ((Gr.refl _).drew.trans hg)
                have hB15 := hB15.gr ((Gr.refl _).drew.trans hg)
                have hB16 := hB16.gr ((Gr.refl _).drew.trans hg)
                have f30 := hd 30 (by decide) _ rfl
                have f32 := hd 32 (by decide) _ rfl
                have f28 := hd 28 (by decide) _ rfl
                have e30 : σ 30 = _ := f30.1 hon
                have e32 : σ 32 = _ := f32.1 hon
                have e28 : σ 28 = _ := f28.1 trivial
                have hgd : σ 28 = .bool false := hon
                have hgb := (f28.1 trivial : σ 28 = _).symm.trans hgd
                simp only [Value.bool.injEq] at hgb
                try simp only [decide_eq_true_eq, decide_eq_false_iff_not, Bool.or_eq_true, Bool.and_eq_true, Bool.or_eq_false_iff, Bool.and_eq_false_iff, Bool.not_eq_true', Bool.not_eq_false', Int.not_lt, Int.not_le, ne_eq, Decidable.not_not] at hgb
                skip
                exact CallOK.sub (r := [(145, _), (147, _), (5, _), (7, _), (9, _), (11, _), (12, _), (13, _), (14, _), (15, _), (16, _)]) ⟨congrArg some e30, congrArg some e32, rfl, rfl, rfl, rfl, rfl, rfl, rfl, rfl, rfl, trivial⟩ (by
                  exact CallOK.V (enters_of rfl rfl hb17) (rsame8' hN.sat hE5a hE6a rfl rfl))
                ), (fun _ _ _ _ _ _ h => h), (fun _ _ _ _ _ _ h => h), ?_⟩
            refine ⟨_, false, (fun σ ι w1 hg hd hon => by
                have f33 := hd 33 (by decide) _ rfl
                have f28 := hd 28 (by decide) _ rfl
                have e33 : σ 33 = _ := f33.1 hon
                have e28 : σ 28 = _ := f28.1 trivial
                have hgd : σ 28 = .bool false := hon
                have hgb := (f28.1 trivial : σ 28 = _).symm.trans hgd
                simp only [Value.bool.injEq] at hgb
                try simp only [decide_eq_true_eq, decide_eq_false_iff_not, Bool.or_eq_true, Bool.and_eq_true, Bool.or_eq_false_iff, Bool.and_eq_false_iff, Bool.not_eq_true', Bool.not_eq_false', Int.not_lt, Int.not_le, ne_eq, Decidable.not_not] at hgb
                exact OpOK.sub (r := [(148, _), (5, _), (7, _), (9, _), (11, _), (12, _), (13, _), (14, _), (15, _), (16, _)]) ⟨congrArg some e33, rfl, rfl, rfl, rfl, rfl, rfl, rfl, rfl, rfl, trivial⟩ (by
                  exact OpOK.eq (r_not rfl))
                ), (fun _ _ _ _ _ _ h => h), (FreeR.no _), ?_⟩
            refine ⟨_, false, (fun σ ι w1 hg hd hon => by
                have f28 := hd 28 (by decide) _ rfl
                have f34 := hd 34 (by decide) _ rfl
                have e28 : σ 28 = _ := f28.1 trivial
                have ec : σ 28 = _ := f28.1 trivial
                exact OpOK.id (by refine OpOK.or (dc := 143) (dy := 149) (kc := σ 28) (ky := σ 34) ?_ ?_ ec (fun hb => f34.1 (by show σ 28 = _; rw [ec]; exact congrArg Value.bool hb)) <;> rfl)
                ), (fun _ _ _ _ _ _ h => h), (FreeR.no _), ?_⟩
            refine ⟨_, false, (fun σ ι w1 hg hd hon => by
                have f35 := hd 35 (by decide) _ rfl
                have e35 : σ 35 = _ := f35.1 trivial
                exact OpOK.sub (r := [(150, _), (5, _), (7, _), (9, _), (11, _), (12, _), (13, _), (14, _), (15, _), (16, _)]) ⟨congrArg some e35, rfl, rfl, rfl, rfl, rfl, rfl, rfl, rfl, rfl, trivial⟩ (by
                  exact OpOK.eq (r_move rfl))
                ), (fun _ _ _ _ _ _ h => h), (FreeR.no _), ?_⟩
            refine ⟨_, false, (fun σ ι w1 hg hd hon => by
                have f36 := hd 36 (by decide) _ rfl
                have e36 : σ 36 = _ := f36.1 trivial
                have hgd : σ 36 = .bool false := hon
                have hgb := (f36.1 trivial : σ 36 = _).symm.trans hgd
                simp only [Value.bool.injEq] at hgb
                try simp only [decide_eq_true_eq, decide_eq_false_iff_not, Bool.or_eq_true, Bool.and_eq_true, Bool.or_eq_false_iff, Bool.and_eq_false_iff, Bool.not_eq_true', Bool.not_eq_false', Int.not_lt, Int.not_le, ne_eq, Decidable.not_not] at hgb
                exact OpOK.sub (r := [(5, _), (7, _), (9, _), (11, _), (12, _), (13, _), (14, _), (15, _), (16, _)]) ⟨rfl, rfl, rfl, rfl, rfl, rfl, rfl, rfl, rfl, trivial⟩ (by
                  exact OpOK.eq (r_move rfl))
                ), (fun _ _ _ _ _ _ h => h), (FreeR.no _), ?_⟩
            refine ⟨_, false, (fun σ ι w1 hg hd hon => by
                have f36 := hd 36 (by decide) _ rfl
                have e36 : σ 36 = _ := f36.1 trivial
                have hgd : σ 36 = .bool false := hon
                have hgb := (f36.1 trivial : σ 36 = _).symm.trans hgd
                simp only [Value.bool.injEq] at hgb
                try simp only [decide_eq_true_eq, decide_eq_false_iff_not, Bool.or_eq_true, Bool.and_eq_true, Bool.or_eq_false_iff, Bool.and_eq_false_iff, Bool.not_eq_true', Bool.not_eq_false', Int.not_lt, Int.not_le, ne_eq, Decidable.not_not] at hgb
                exact OpOK.sub (r := [(5, _), (7, _), (9, _), (11, _), (12, _), (13, _), (14, _), (15, _), (16, _)]) ⟨rfl, rfl, rfl, rfl, rfl, rfl, rfl, rfl, rfl, trivial⟩ (by
                  exact OpOK.eq (r_move rfl))
                ), (fun _ _ _ _ _ _ h => h), (FreeR.no _), ?_⟩
            refine ⟨_, false, (fun σ ι w1 hg hd hon => by
                have f37 := hd 37 (by decide) _ rfl
                have f38 := hd 38 (by decide) _ rfl
                have f36 := hd 36 (by decide) _ rfl
                have e37 : σ 37 = _ := f37.1 hon
                have e38 : σ 38 = _ := f38.1 hon
                have e36 : σ 36 = _ := f36.1 trivial
                have hgd : σ 36 = .bool false := hon
                have hgb := (f36.1 trivial : σ 36 = _).symm.trans hgd
                simp only [Value.bool.injEq] at hgb
                try simp only [decide_eq_true_eq, decide_eq_false_iff_not, Bool.or_eq_true, Bool.and_eq_true, Bool.or_eq_false_iff, Bool.and_eq_false_iff, Bool.not_eq_true', Bool.not_eq_false', Int.not_lt, Int.not_le, ne_eq, Decidable.not_not] at hgb
                exact OpOK.sub (r := [(152, _), (153, _), (5, _), (7, _), (9, _), (11, _), (12, _), (13, _), (14, _), (15, _), (16, _)]) ⟨congrArg some e37, congrArg some e38, rfl, rfl, rfl, rfl, rfl, rfl, rfl, rfl, rfl, trivial⟩ (by
                  exact OpOK.eq (r_idx Try.underlying30 sz22 rfl rfl (i := i) rfl (by omega)))
                ), (fun _ _ _ _ _ _ h => h), (FreeR.no _), ?_⟩
            refine ⟨_, false, (fun σ ι w1 hg hd hon => by
                have hN := hN.ofGr ((Gr.refl _).drew.trans hg)
                have hB5 := hB5.gr ((Gr.refl _).drew.trans hg)
                have hB13 := hB13.gr ((Gr.refl _).drew.trans hg)
                have hB14 := hB14.gr ((Gr.refl _).drew.trans hg)
                have hB15 := hB15.gr ((Gr.refl _).drew.trans hg)
                have hB16 := hB16.gr ((Gr.refl _).drew.trans hg)
                have f39 := hd 39 (by decide) _ rfl
                have f36 := hd 36 (by decide) _ rfl
                have e39 : σ 39 = _ := f39.1 hon
                have e36 : σ 36 = _ := f36.1 trivial
                have hgd : σ 36 = .bool false := hon
                have hgb := (f36.1 trivial : σ 36 = _).symm.trans hgd
                simp only [Value.bool.injEq] at hgb
                try simp only [decide_eq_true_eq, decide_eq_false_iff_not, Bool.or_eq_true, Bool.and_eq_true, Bool.or_eq_false_iff, Bool.and_eq_false_iff, Bool.not_eq_true', Bool.not_eq_false', Int.not_lt, Int.not_le, ne_eq, Decidable.not_not] at hgb
                exact OpOK.sub (r := [(154, _), (5, _), (7, _), (9, _), (11, _), (12, _), (13, _), (14, _), (15, _), (16, _)]) ⟨congrArg some e39, rfl, rfl, rfl, rfl, rfl, rfl, rfl, rfl, rfl, trivial⟩ (by
                  exact OpOK.eq (r_load sc22 rfl (hN.sat.cell hcx)))
                ), (fun _ _ _ _ _ _ h => h), (FreeR.no _), ?_⟩
            refine ⟨_, true, (fun σ ι w1 hg hd hon => by
                have hN := hN.ofGr ((Gr.refl _).drew.trans hg)
                have hB5 := hB5.gr ((Gr.refl _).drew.trans hg)
                have hB13 := hB13.gr ((Gr.refl _).drew.trans hg)
                have hB14 := hB14.gr ((Gr.refl _).drew.trans hg)
                have hB15 := hB15.gr ((Gr.refl _).drew.trans hg)
                have hB16 := hB16.gr ((Gr.refl _).drew.trans hg)
                have f40 := hd 40 (by decide) _ rfl
                have f36 := hd 36 (by decide) _ rfl
                have e40 : σ 40 = _ := f40.1 hon
                have e36 : σ 36 = _ := f36.1 trivial
                have hgd : σ 36 = .bool false := hon
                have hgb := (f36.1 trivial : σ 36 = _).symm.trans hgd
                simp only [Value.bool.injEq] at hgb
                try simp only [decide_eq_true_eq, decide_eq_false_iff_not, Bool.or_eq_true, Bool.and_eq_true, Bool.or_eq_false_iff, Bool.and_eq_false_iff, Bool.not_eq_true', Bool.not_eq_false', Int.not_lt, Int.not_le, ne_eq, Decidable.not_not] at hgb
                skip
                exact CallOK.sub (r := [(155, _), (5, _), (7, _), (9, _), (11, _), (12, _), (13, _), (14, _), (15, _), (16, _)]) ⟨congrArg some e40, rfl, rfl, rfl, rfl, rfl, rfl, rfl, rfl, rfl, trivial⟩ (by
                  exact CallOK.V (enters_of rfl rfl hb18) (jwhole' hN.sat hEx rfl hlx (by omega)))
                ), (fun _ _ _ _ _ _ h => h), (fun _ _ _ _ _ _ h => h), ?_⟩
            refine ⟨_, false, (fun σ ι w1 hg hd hon => by
                have f36 := hd 36 (by decide) _ rfl
                have e36 : σ 36 = _ := f36.1 trivial
                have hgd : σ 36 = .bool false := hon
                have hgb := (f36.1 trivial : σ 36 = _).symm.trans hgd
                simp only [Value.bool.injEq] at hgb
                try simp only [decide_eq_true_eq, decide_eq_false_iff_not, Bool.or_eq_true, Bool.and_eq_true, Bool.or_eq_false_iff, Bool.and_eq_false_iff, Bool.not_eq_true', Bool.not_eq_false', Int.not_lt, Int.not_le, ne_eq, Decidable.not_not] at hgb
                exact OpOK.sub (r := [(5, _), (7, _), (9, _), (11, _), (12, _), (13, _), (14, _), (15, _), (16, _)]) ⟨rfl, rfl, rfl, rfl, rfl, rfl, rfl, rfl, rfl, trivial⟩ (by
                  exact OpOK.eq (r_move rfl))
                ), (fun _ _ _ _ _ _ h => h), (FreeR.no _), ?_⟩
            refine ⟨_, false, (fun σ ι w1 hg hd hon => by
                have f36 := hd 36 (by decide) _ rfl
                have e36 : σ 36 = _ := f36.1 trivial
                have hgd : σ 36 = .bool false := hon
                have hgb := (f36.1 trivial : σ 36 = _).symm.trans hgd
                simp only [Value.bool.injEq] at hgb
                try simp only [decide_eq_true_eq, decide_eq_false_iff_not, Bool.or_eq_true, Bool.and_eq_true, Bool.or_eq_false_iff, Bool.and_eq_false_iff, Bool.not_eq_true', Bool.not_eq_false', Int.not_lt, Int.not_le, ne_eq, Decidable.not_not] at hgb
                exact OpOK.sub (r := [(5, _), (7, _), (9, _), (11, _), (12, _), (13, _), (14, _), (15, _), (16, _)]) ⟨rfl, rfl, rfl, rfl, rfl, rfl, rfl, rfl, rfl, trivial⟩ (by
                  exact OpOK.eq (r_move rfl))
                ), (fun _ _ _ _ _ _ h => h), (FreeR.no _), ?_⟩
            refine ⟨_, false, (fun σ ι w1 hg hd hon => by
                have f42 := hd 42 (by decide) _ rfl
                have f43 := hd 43 (by decide) _ rfl
                have f36 := hd 36 (by decide) _ rfl
                have e42 : σ 42 = _ := f42.1 hon
                have e43 : σ 43 = _ := f43.1 hon
                have e36 : σ 36 = _ := f36.1 trivial
                have hgd : σ 36 = .bool false := hon
                have hgb := (f36.1 trivial : σ 36 = _).symm.trans hgd
                simp only [Value.bool.injEq] at hgb
                try simp only [decide_eq_true_eq, decide_eq_false_iff_not, Bool.or_eq_true, Bool.and_eq_true, Bool.or_eq_false_iff, Bool.and_eq_false_iff, Bool.not_eq_true', Bool.not_eq_false', Int.not_lt, Int.not_le, ne_eq, Decidable.not_not] at hgb
                exact OpOK.sub (r := [(157, _), (158, _), (5, _), (7, _), (9, _), (11, _), (12, _), (13, _), (14, _), (15, _), (16, _)]) ⟨congrArg some e42, congrArg some e43, rfl, rfl, rfl, rfl, rfl, rfl, rfl, rfl, rfl, trivial⟩ (by
                  exact OpOK.eq (r_idx Try.underlying30 sz22 rfl rfl (i := i) rfl (by omega)))
                ), (fun _ _ _ _ _ _ h => h), (FreeR.no _), ?_⟩
            refine ⟨_, false, (fun σ ι w1 hg hd hon => by
                have hN := hN.ofGr ((Gr.refl _).drew.trans hg)
                have hB5 := hB5.gr ((Gr.refl _).drew.trans hg)
                have hB13 := hB13.gr ((Gr.refl _).drew.trans hg)
                have hB14 := hB14.gr ((Gr.refl _).drew.trans hg)
                have hB15 := hB15.gr ((Gr.refl _).drew.trans hg)
                have hB16 := hB16.gr ((Gr.refl _).drew.trans hg)
                have f44 := hd 44 (by decide) _ rfl
                have f36 := hd 36 (by decide) _ rfl
                have e44 : σ 44 = _ := f44.1 hon
                have e36 : σ 36 = _ := f36.1 trivial
                have hgd : σ 36 = .bool false := hon
                have hgb := (f36.1 trivial : σ 36 = _).symm.trans hgd
                simp only [Value.bool.injEq] at hgb
                try simp only [decide_eq_true_eq, decide_eq_false_iff_not, Bool.or_eq_true, Bool.and_eq_true, Bool.or_eq_false_iff, Bool.and_eq_false_iff, Bool.not_eq_true', Bool.not_eq_false', Int.not_lt, Int.not_le, ne_eq, Decidable.not_not] at hgb
                exact OpOK.sub (r := [(159, _), (5, _), (7, _), (9, _), (11, _), (12, _), (13, _), (14, _), (15, _), (16, _)]) ⟨congrArg some e44, rfl, rfl, rfl, rfl, rfl, rfl, rfl, rfl, rfl, trivial⟩ (by
                  exact OpOK.eq (r_load sc22 rfl (hN.sat.cell hcx)))
                ), (fun _ _ _ _ _ _ h => h), (FreeR.no _), ?_⟩
            refine ⟨_, true, (fun σ ι w1 hg hd hon => by
                have hN := hN.ofGr ((Gr.refl _).drew.trans hg)
                have hB5 := hB5.gr ((Gr.refl _).drew.trans hg)
                have hB13 := hB13.gr ((Gr.refl _).drew.trans hg)
                have hB14 := hB14.gr ((Gr.refl _).drew.trans hg)
                have hB15 := hB15.gr ((Gr.refl _).drew.trans hg)
                have hB16 := hB16.gr ((Gr.refl _).drew.trans hg)
                have f45 := hd 45 (by decide) _ rfl
                have f36 := hd 36 (by decide) _ rfl
                have e45 : σ 45 = _ := f45.1 hon
                have e36 : σ 36 = _ := f36.1 trivial
                have hgd : σ 36 = .bool false := hon
                have hgb := (f36.1 trivial : σ 36 = _).symm.trans hgd
                simp only [Value.bool.injEq] at hgb
                try simp only [decide_eq_true_eq, decide_eq_false_iff_not, Bool.or_eq_true, Bool.and_eq_true, Bool.or_eq_false_iff, Bool.and_eq_false_iff, Bool.not_eq_true', Bool.not_eq_false', Int.not_lt, Int.not_le, ne_eq, Decidable.not_not] at hgb
                skip
                exact CallOK.sub (r := [(160, _), (5, _), (7, _), (9, _), (11, _), (12, _), (13, _), (14, _), (15, _), (16, _)]) ⟨congrArg some e45, rfl, rfl, rfl, rfl, rfl, rfl, rfl, rfl, rfl, trivial⟩ (by
                  exact CallOK.V (enters_of rfl rfl hb19) (rwhole hN.sat hEx hlx (by omega)))
                ), (fun _ _ _ _ _ _ h => h), (fun _ _ _ _ _ _ h => h), ?_⟩
            refine ⟨_, true, (fun σ ι w1 hg hd hon => by
                have hN := hN.ofGr ((Gr.refl _).drew.trans hg)
                have hB5 := hB5.gr ((Gr.refl _).drew.trans hg)
                have hB13 := hB13.gr ((Gr.refl _).drew.trans hg)
                have hB14 := hB14.gr ((Gr.refl _).drew.trans hg)
                have hB15 := hB15.gr ((Gr.refl _).drew.trans hg)
                have hB16 := hB16.gr ((Gr.refl _).drew.trans hg)
                have f41 := hd 41 (by decide) _ rfl
                have f46 := hd 46 (by decide) _ rfl
                have f36 := hd 36 (by decide) _ rfl
                have e41 : σ 41 = _ := f41.1 hon
                have e46 : σ 46 = _ := f46.1 hon
                have e36 : σ 36 = _ := f36.1 trivial
                have hgd : σ 36 = .bool false := hon
                have hgb := (f36.1 trivial : σ 36 = _).symm.trans hgd
                simp only [Value.bool.injEq] at hgb
                try simp only [decide_eq_true_eq, decide_eq_false_iff_not, Bool.or_eq_true, Bool.and_eq_true, Bool.or_eq_false_iff, Bool.and_eq_false_iff, Bool.not_eq_true', Bool.not_eq_false', Int.not_lt, Int.not_le, ne_eq, Decidable.not_not] at hgb
                skip
                exact CallOK.sub (r := [(156, _), (161, _), (5, _), (7, _), (9, _), (11, _), (12, _), (13, _), (14, _), (15, _), (16, _)]) ⟨congrArg some e41, congrArg some e46, rfl, rfl, rfl, rfl, rfl, rfl, rfl, rfl, rfl, trivial⟩ (by
                  exact CallOK.V (enters_of rfl rfl hb17) (rsame8' (l := y.take (jall y 0).off) (m := y.take (jall y 0).off) hN.sat (hEx.take _) (hEx.take _) (by simp; omega) (by simp; omega)))
                ), (fun _ _ _ _ _ _ h => h), (fun _ _ _ _ _ _ h => h), ?_⟩
            refine ⟨_, false, (fun σ ι w1 hg hd hon => by
                have f47 := hd 47 (by decide) _ rfl
                have f36 := hd 36 (by decide) _ rfl
                have e47 : σ 47 = _ := f47.1 hon
                have e36 : σ 36 = _ := f36.1 trivial
                have hgd : σ 36 = .bool false := hon
                have hgb := (f36.1 trivial : σ 36 = _).symm.trans hgd
                simp only [Value.bool.injEq] at hgb
                try simp only [decide_eq_true_eq, decide_eq_false_iff_not, Bool.or_eq_true, Bool.and_eq_true, Bool.or_eq_false_iff, Bool.and_eq_false_iff, Bool.not_eq_true', Bool.not_eq_false', Int.not_lt, Int.not_le, ne_eq, Decidable.not_not] at hgb
                exact OpOK.sub (r := [(162, _), (5, _), (7, _), (9, _), (11, _), (12, _), (13, _), (14, _), (15, _), (16, _)]) ⟨congrArg some e47, rfl, rfl, rfl, rfl, rfl, rfl, rfl, rfl, rfl, trivial⟩ (by
                  exact OpOK.eq (r_not rfl))
                ), (fun _ _ _ _ _ _ h => h), (FreeR.no _), ?_⟩
            refine ⟨_, false, (fun σ ι w1 hg hd hon => by
                have f36 := hd 36 (by decide) _ rfl
                have f48 := hd 48 (by decide) _ rfl
                have e36 : σ 36 = _ := f36.1 trivial
                have ec : σ 36 = _ := f36.1 trivial
                exact OpOK.id (by refine OpOK.or (dc := 151) (dy := 163) (kc := σ 36) (ky := σ 48) ?_ ?_ ec (fun hb => f48.1 (by show σ 36 = _; rw [ec]; exact congrArg Value.bool hb)) <;> rfl)
                ), (fun _ _ _ _ _ _ h => h), (FreeR.no _), ?_⟩
            intro σ ι a57 w25 hgw25 H84 hd hap
            skip
            have hN0 := hN
            have hN := hN.ofGr ((Gr.refl _).drew.trans hgw25)
            replace hB5 := hB5.gr ((Gr.refl _).drew.trans hgw25)
            replace hB13 := hB13.gr ((Gr.refl _).drew.trans hgw25)
            replace hB14 := hB14.gr ((Gr.refl _).drew.trans hgw25)
            replace hB15 := hB15.gr ((Gr.refl _).drew.trans hgw25)
            replace hB16 := hB16.gr ((Gr.refl _).drew.trans hgw25)
            have e49 : σ 49 = _ := (hd 49 (by decide) _ rfl).1 trivial
            replace H84 := H84.sub (r := [(164, _), (5, _), (7, _), (9, _), (11, _), (12, _), (13, _), (14, _), (15, _), (16, _)]) ⟨congrArg some e49, rfl, rfl, rfl, rfl, rfl, rfl, rfl, rfl, rfl, trivial⟩
            clear hd
            replace H84 := H84.known (t := 164) (b := false) rfl (by simp)
            clear hap
            refine wl_end ?_
            refine th_n ?_
            refine w_ff H84 rfl rfl ?_
            refine wpIn_skip ?_
            refine th_n ?_
            refine wpIn_seq ?_
            obtain ⟨Ax, cx, hcx, hlx, hEx⟩ := hEall.rowAt hi2
            rw [← hy] at hcx hlx hEx
            have hS0 := hN.sat
            have hNsz23 := hN.gr.size
            refine w_drawE (m := 17) (l0 := [(5, _), (7, _), (9, _), (11, _), (12, _)]) hfol H84 ⟨rfl, rfl, rfl, rfl, rfl, trivial⟩ (by kernel_rfl) ?_
            refine ⟨_, false, (fun σ ι w1 hg hd hon => by
                exact OpOK.sub (r := [(5, _), (7, _), (9, _), (11, _), (12, _)]) ⟨rfl, rfl, rfl, rfl, rfl, trivial⟩ (by
                  exact OpOK.eq (r_move rfl))
                ), (fun _ _ _ _ _ _ h => h), (FreeR.no _), ?_⟩
            refine ⟨_, false, (fun σ ι w1 hg hd hon => by
                exact OpOK.sub (r := [(5, _), (7, _), (9, _), (11, _), (12, _)]) ⟨rfl, rfl, rfl, rfl, rfl, trivial⟩ (by
                  exact OpOK.eq (r_move rfl))
                ), (fun _ _ _ _ _ _ h => h), (FreeR.no _), ?_⟩
            refine ⟨_, false, (fun σ ι w1 hg hd hon => by
                have f0 := hd 0 (by decide) _ rfl
                have f1 := hd 1 (by decide) _ rfl
                have e0 : σ 0 = _ := f0.1 trivial
                have e1 : σ 1 = _ := f1.1 trivial
                exact OpOK.sub (r := [(165, _), (166, _), (5, _), (7, _), (9, _), (11, _), (12, _)]) ⟨congrArg some e0, congrArg some e1, rfl, rfl, rfl, rfl, rfl, trivial⟩ (by
                  exact OpOK.eq (r_idx Try.underlying30 sz22 rfl rfl (i := i) rfl (by omega)))
                ), (fun _ _ _ _ _ _ h => h), (FreeR.no _), ?_⟩
            refine ⟨_, false, (fun σ ι w1 hg hd hon => by
                have hN := hN.ofGr ((Gr.refl _).drew.trans hg)
                have hB5 := hB5.gr ((Gr.refl _).drew.trans hg)
                have hB13 := hB13.gr ((Gr.refl _).drew.trans hg)
                have hB14 := hB14.gr ((Gr.refl _).drew.trans hg)
                have hB15 := hB15.gr ((Gr.refl _).drew.trans hg)
                have hB16 := hB16.gr ((Gr.refl _).drew.trans hg)
                have f2 := hd 2 (by decide) _ rfl
                have e2 : σ 2 = _ := f2.1 trivial
                exact OpOK.sub (r := [(167, _), (5, _), (7, _), (9, _), (11, _), (12, _)]) ⟨congrArg some e2, rfl, rfl, rfl, rfl, rfl, trivial⟩ (by
                  exact OpOK.eq (r_load sc22 rfl (hN.sat.cell hcx)))
                ), (fun _ _ _ _ _ _ h => h), (FreeR.no _), ?_⟩
            refine ⟨_, false, (fun σ ι w1 hg hd hon => by
                exact OpOK.sub (r := [(5, _), (7, _), (9, _), (11, _), (12, _)]) ⟨rfl, rfl, rfl, rfl, rfl, trivial⟩ (by
                  exact OpOK.eq (r_idxA Try.underlying25 sz24 rfl rfl (i := 0) rfl (by omega)))
                ), (fun _ _ _ _ _ _ h => h), (FreeR.no _), ?_⟩
            refine ⟨_, false, (fun σ ι w1 hg hd hon => by
                have hN := hN.ofGr ((Gr.refl _).drew.trans hg)
                have hB5 := hB5.gr ((Gr.refl _).drew.trans hg)
                have hB13 := hB13.gr ((Gr.refl _).drew.trans hg)
                have hB14 := hB14.gr ((Gr.refl _).drew.trans hg)
                have hB15 := hB15.gr ((Gr.refl _).drew.trans hg)
                have hB16 := hB16.gr ((Gr.refl _).drew.trans hg)
                have f4 := hd 4 (by decide) _ rfl
                have e4 : σ 4 = _ := f4.1 trivial
                exact OpOK.sub (r := [(169, _), (5, _), (7, _), (9, _), (11, _), (12, _)]) ⟨congrArg some e4, rfl, rfl, rfl, rfl, rfl, trivial⟩ (by
                  exact OpOK.eq (r_load sc24 rfl (hB5.cell rfl)))
                ), (fun _ _ _ _ _ _ h => h), (FreeR.no _), ?_⟩
            refine ⟨_, false, (fun σ ι w1 hg hd hon => by
                have f5 := hd 5 (by decide) _ rfl
                have e5 : σ 5 = _ := f5.1 trivial
                exact OpOK.sub (r := [(170, _), (5, _), (7, _), (9, _), (11, _), (12, _)]) ⟨congrArg some e5, rfl, rfl, rfl, rfl, rfl, trivial⟩ (by
                  first | exact OpOK.eq (r_convk Try.underlying24 Try.underlying3 rfl (by simp only [InK]; omega)) | exact OpOK.eq (r_conv Try.underlying24 Try.underlying3 rfl))
                ), (fun _ _ _ _ _ _ h => h), (FreeR.no _), ?_⟩
            refine ⟨_, false, (fun σ ι w1 hg hd hon => by
                have f6 := hd 6 (by decide) _ rfl
                have e6 : σ 6 = _ := f6.1 trivial
                exact OpOK.sub (r := [(171, _), (5, _), (7, _), (9, _), (11, _), (12, _)]) ⟨congrArg some e6, rfl, rfl, rfl, rfl, rfl, trivial⟩ (by
                  first | exact OpOK.eq (r_subk rfl rfl (by simp only [InK]; omega)) | exact OpOK.eq (r_sub rfl rfl))
                ), (fun _ _ _ _ _ _ h => h), (FreeR.no _), ?_⟩
            refine ⟨_, true, (fun σ ι w1 hg hd hon => by
                have hN := hN.ofGr ((Gr.refl _).drew.trans hg)
                have hB5 := hB5.gr ((Gr.refl _).drew.trans hg)
                have hB13 := hB13.gr ((Gr.refl _).drew.trans hg)
                have hB14 := hB14.gr ((Gr.refl _).drew.trans hg)
                have hB15 := hB15.gr ((Gr.refl _).drew.trans hg)
                have hB16 := hB16.gr ((Gr.refl _).drew.trans hg)
                have f3 := hd 3 (by decide) _ rfl
                have f7 := hd 7 (by decide) _ rfl
                have e3 : σ 3 = _ := f3.1 trivial
                have e7 : σ 7 = _ := f7.1 trivial
                skip
                exact CallOK.sub (r := [(168, _), (172, _), (5, _), (7, _), (9, _), (11, _), (12, _)]) ⟨congrArg some e3, congrArg some e7, rfl, rfl, rfl, rfl, rfl, trivial⟩ (by
                  exact CallOK.V (enters_of rfl rfl hb20) (jcut (n := k0 - 9) (l := y) hN.sat hlx))
                ), (fun _ _ _ _ _ _ h => h), (fun _ _ _ _ _ _ h => h), ?_⟩
            refine ⟨_, false, (fun σ ι w1 hg hd hon => by
                exact OpOK.sub (r := [(5, _), (7, _), (9, _), (11, _), (12, _)]) ⟨rfl, rfl, rfl, rfl, rfl, trivial⟩ (by
                  exact OpOK.eq (r_move rfl))
                ), (fun _ _ _ _ _ _ h => h), (FreeR.no _), ?_⟩
            refine ⟨_, false, (fun σ ι w1 hg hd hon => by
                exact OpOK.sub (r := [(5, _), (7, _), (9, _), (11, _), (12, _)]) ⟨rfl, rfl, rfl, rfl, rfl, trivial⟩ (by
                  exact OpOK.eq (r_move rfl))
                ), (fun _ _ _ _ _ _ h => h), (FreeR.no _), ?_⟩
            refine ⟨_, false, (fun σ ι w1 hg hd hon => by
                have f9 := hd 9 (by decide) _ rfl
                have f10 := hd 10 (by decide) _ rfl
                have e9 : σ 9 = _ := f9.1 trivial
                have e10 : σ 10 = _ := f10.1 trivial
                exact OpOK.sub (r := [(174, _), (175, _), (5, _), (7, _), (9, _), (11, _), (12, _)]) ⟨congrArg some e9, congrArg some e10, rfl, rfl, rfl, rfl, rfl, trivial⟩ (by
                  exact OpOK.eq (r_idx Try.underlying30 sz22 rfl rfl (i := i) rfl (by omega)))
                ), (fun _ _ _ _ _ _ h => h), (FreeR.no _), ?_⟩
            refine ⟨_, false, (fun σ ι w1 hg hd hon => by
                have hN := hN.ofGr ((Gr.refl _).drew.trans hg)
                have hB5 := hB5.gr ((Gr.refl _).drew.trans hg)
                have hB13 := hB13.gr ((Gr.refl _).drew.trans hg)
                have hB14 := hB14.gr ((Gr.refl _).drew.trans hg)
                have hB15 := hB15.gr ((Gr.refl _).drew.trans hg)
                have hB16 := hB16.gr ((Gr.refl _).drew.trans hg)
                have f11 := hd 11 (by decide) _ rfl
                have e11 : σ 11 = _ := f11.1 trivial
                exact OpOK.sub (r := [(176, _), (5, _), (7, _), (9, _), (11, _), (12, _)]) ⟨congrArg some e11, rfl, rfl, rfl, rfl, rfl, trivial⟩ (by
                  exact OpOK.eq (r_load sc22 rfl (hN.sat.cell hcx)))
                ), (fun _ _ _ _ _ _ h => h), (FreeR.no _), ?_⟩
            refine ⟨_, false, (fun σ ι w1 hg hd hon => by
                exact OpOK.sub (r := [(5, _), (7, _), (9, _), (11, _), (12, _)]) ⟨rfl, rfl, rfl, rfl, rfl, trivial⟩ (by
                  exact OpOK.eq (r_idxA Try.underlying25 sz24 rfl rfl (i := 0) rfl (by omega)))
                ), (fun _ _ _ _ _ _ h => h), (FreeR.no _), ?_⟩
            refine ⟨_, false, (fun σ ι w1 hg hd hon => by
                have hN := hN.ofGr ((Gr.refl _).drew.trans hg)
                have hB5 := hB5.gr ((Gr.refl _).drew.trans hg)
                have hB13 := hB13.gr ((Gr.refl _).drew.trans hg)
                have hB14 := hB14.gr ((Gr.refl _).drew.trans hg)
                have hB15 := hB15.gr ((Gr.refl _).drew.trans hg)
                have hB16 := hB16.gr ((Gr.refl _).drew.trans hg)
                have f13 := hd 13 (by decide) _ rfl
                have e13 : σ 13 = _ := f13.1 trivial
                exact OpOK.sub (r := [(178, _), (5, _), (7, _), (9, _), (11, _), (12, _)]) ⟨congrArg some e13, rfl, rfl, rfl, rfl, rfl, trivial⟩ (by
                  exact OpOK.eq (r_load sc24 rfl (hB5.cell rfl)))
                ), (fun _ _ _ _ _ _ h => h), (FreeR.no _), ?_⟩
            refine ⟨_, false, (fun σ ι w1 hg hd hon => by
                have f14 := hd 14 (by decide) _ rfl
                have e14 : σ 14 = _ := f14.1 trivial
                exact OpOK.sub (r := [(179, _), (5, _), (7, _), (9, _), (11, _), (12, _)]) ⟨congrArg some e14, rfl, rfl, rfl, rfl, rfl, trivial⟩ (by
                  first | exact OpOK.eq (r_convk Try.underlying24 Try.underlying3 rfl (by simp only [InK]; omega)) | exact OpOK.eq (r_conv Try.underlying24 Try.underlying3 rfl))
                ), (fun _ _ _ _ _ _ h => h), (FreeR.no _), ?_⟩
            refine ⟨_, false, (fun σ ι w1 hg hd hon => by
                have f15 := hd 15 (by decide) _ rfl
                have e15 : σ 15 = _ := f15.1 trivial
                exact OpOK.sub (r := [(180, _), (5, _), (7, _), (9, _), (11, _), (12, _)]) ⟨congrArg some e15, rfl, rfl, rfl, rfl, rfl, trivial⟩ (by
                  first | exact OpOK.eq (r_subk rfl rfl (by simp only [InK]; omega)) | exact OpOK.eq (r_sub rfl rfl))
                ), (fun _ _ _ _ _ _ h => h), (FreeR.no _), ?_⟩
            intro σ ι a58 w27 hgw27 H85 hd hap
            skip
            have hN0 := hN
            have hN := hN.ofGr ((Gr.refl _).drew.trans hgw27)
            replace hB5 := hB5.gr ((Gr.refl _).drew.trans hgw27)
            replace hB13 := hB13.gr ((Gr.refl _).drew.trans hgw27)
            replace hB14 := hB14.gr ((Gr.refl _).drew.trans hgw27)
            replace hB15 := hB15.gr ((Gr.refl _).drew.trans hgw27)
            replace hB16 := hB16.gr ((Gr.refl _).drew.trans hgw27)
            have e8 : σ 8 = _ := (hd 8 (by decide) _ rfl).1 trivial
            have e12 : σ 12 = _ := (hd 12 (by decide) _ rfl).1 trivial
            have e16 : σ 16 = _ := (hd 16 (by decide) _ rfl).1 trivial
            replace H85 := H85.sub (r := [(173, _), (177, _), (181, _), (5, _), (7, _), (9, _), (11, _), (12, _)]) ⟨congrArg some e8, congrArg some e12, congrArg some e16, rfl, rfl, rfl, rfl, rfl, trivial⟩
            clear hd
            clear hap
            refine wlc  H85 rfl rfl hb21 rfl (rcut (n := k0 - 9) (l := y) hN.sat hlx) fun v w28 hR a59 H86 => ?_
            clear H85 a58
            obtain ⟨rfl, gw28⟩ := hR
            have hN := hN.ofGr gw28
            replace hB5 := hB5.gr gw28
            replace hB13 := hB13.gr gw28
            replace hB14 := hB14.gr gw28
            replace hB15 := hB15.gr gw28
            replace hB16 := hB16.gr gw28
            refine wlc  H86 rfl rfl hb17 rfl (rsame8' (l := y.take (min (max (k0 - 9) 0) (y.length : Int)).toNat) (m := y.take (min (max (k0 - 9) 0) (y.length : Int)).toNat) hN.sat (hEx.take _) (hEx.take _) (by simp; omega) (by simp; omega)) fun v w29 hR a60 H87 => ?_
            clear H86 a59
            obtain ⟨rfl, gw29⟩ := hR
            have hN := hN.ofGr gw29
            replace hB5 := hB5.gr gw29
            replace hB13 := hB13.gr gw29
            replace hB14 := hB14.gr gw29
            replace hB15 := hB15.gr gw29
            replace hB16 := hB16.gr gw29
            refine wl1 H87 (r_not rfl) rfl rfl rfl rfl fun a61 H88 => ?_
            clear H87 a60
            replace H88 := H88.known (t := 184) (b := false) rfl (by simp)
            refine wl_end ?_
            refine th_n ?_
            refine w_ff H88 rfl rfl ?_
            refine wpIn_skip ?_
            refine bl_n ?_
            refine th_n ?_
            refine w_reg ?_
            refine wl1 H88 (r_move rfl) rfl rfl rfl rfl fun a62 H89 => ?_
            clear H88 a61
            first | refine wl1 H89 (r_addk rfl rfl (by simp only [InK]; omega)) rfl rfl rfl rfl fun a63 H90 => ?_ | refine wl1 H89 (r_add rfl rfl) rfl rfl rfl rfl fun a63 H90 => ?_
            clear H89 a62
            refine wl1 H90 (r_assign rfl) rfl rfl rfl rfl fun a64 H91 => ?_
            clear H90 a63
            refine wl_end ?_
            exact th_n ⟨(i + 1, (joinI (joinI (joinI (joinI J15 K4) K9) K5) K11)), (by show 2 - (i + 1) < 2 - i; omega), H91.sub ⟨rfl, rfl, rfl, rfl, rfl, trivial⟩, hleJ2, hN, by show i + 1 ≤ 2; omega, hB5⟩
          ·
            try simp only [decide_eq_true_eq, decide_eq_false_iff_not, Bool.or_eq_true, Bool.and_eq_true, Bool.or_eq_false_iff, Bool.and_eq_false_iff, Bool.not_eq_true', Bool.not_eq_false', Int.not_lt, Int.not_le, ne_eq, Decidable.not_not] at hc90
            refine wpIn_exit ?_
            refine th_x ?_
            refine th_x ?_
            refine bl_hit ?_
            refine th_n ?_
            refine wpIn_seq ?_
            refine w_reg ?_
            refine wl1 H77 (r_move rfl) rfl rfl rfl rfl fun a55 H92 => ?_
            clear H77 a54
            refine wl1 H92 (r_assign rfl) rfl rfl rfl rfl fun a56 H93 => ?_
            clear H92 a55
            refine wl_end ?_
            refine th_n ?_
            refine wpIn_ret ?_
            refine fin_r H93 (res1 rfl H93 rfl) ?_
            exact ⟨rfl, hN.gr⟩
      ·
        try simp only [decide_eq_true_eq, decide_eq_false_iff_not, Bool.or_eq_true, Bool.and_eq_true, Bool.or_eq_false_iff, Bool.and_eq_false_iff, Bool.not_eq_true', Bool.not_eq_false', Int.not_lt, Int.not_le, ne_eq, Decidable.not_not] at hc33
        obtain ⟨pl, hpl⟩ : ∃ p : List Int, p = [] := ⟨_, rfl⟩
        have hE8 : Els (kInt .u8) J4 A8 pl := by rw [hpl]; exact Els.nil _ _ _
        rw [show ol.length = pl.length by rw [hpl]; show ol.length = 0; omega] at H29
        have hc8' : pl.length ≤ c8 := by rw [hpl]; simp
        have hp9 : pl.length ≤ 65536 := by rw [hpl]; simp
        refine wpIn_skip ?_
        refine th_n ?_
        refine wpIn_seq ?_
        refine w_reg ?_
        obtain ⟨B9, hBw⟩ : ∃ B, B = (w4).heap.size := ⟨_, rfl⟩
        have hlt5b := hB5.lt
        have hszB : B9 ≤ (w4).heap.size := Nat.le_of_eq hBw
        have hwB : w.heap.size ≤ B9 := by rw [hBw]; exact hN.gr.size
        refine s_lit1 (cs := []) H29 Try.underlying29 sz3 zv3 rfl rfl rfl (by simp [Value.oneCell']) rfl hN fun w30 l66 K30 hKl66 hlel66 hN nw30 hgel66 a21 H94 => ?_
        clear H29 a20
        replace hA := hA.up nw30.le
        replace hX := hX.up nw30.le
        replace hE8 := hE8.up nw30.le
        replace hB5 := hB5.next nw30
        replace hszB := Nat.le_trans hszB nw30.gr.size
        refine wl1 H94 (r_assign rfl) rfl rfl rfl rfl fun a22 H95 => ?_
        clear H94 a21
        refine wl_end ?_
        refine th_n ?_
        refine wpIn_seq ?_
        refine wpIn_seq ?_
        refine w_reg ?_
        refine wl1 H95 (r_assign rfl) rfl rfl rfl rfl fun a23 H96 => ?_
        clear H95 a22
        refine wl_end ?_
        refine th_n ?_
        refine wpIn_block ?_
        refine w_loop (ι := (Nat × Value) × Im) (fun xJ => (fun x => [(10, .int .i64 (x.1 : Int)), (9, x.2)]) xJ.1) (fun xJ W => Im.le K30 xJ.2 ∧ New I w xJ.2 W ∧ (fun x (J : Im) => x.1 ≤ n3 ∧ Box J W b5 [.int .u16 k0, .int .u16 k1, .int .u16 k2, .int .u16 k3] 25 ∧ B9 ≤ W.heap.size ∧ Apx (kInt .i64) J W B9 3 x.2 (rl k3 x.1)) xJ.1 xJ.2) (fun xJ => (fun x => n3 - x.1) xJ.1) (l0 := [(0, _), (5, _), (6, _), (7, _), (8, _)]) ((0, _), K30) H96 ⟨rfl, rfl, rfl, rfl, rfl, rfl, rfl, trivial⟩ ⟨Im.le.refl _, hN, Nat.zero_le _, hB5, hszB, .inr ⟨_, rfl, Els.nil _ _ _⟩⟩ ?_
        rintro ⟨⟨i, u⟩, J31⟩ a24 w31 H97 ⟨hleJ1, hN, hi, hB5, hszB, hO⟩
        clear H96 a23
        simp only [List.cons_append, List.nil_append] at H97
        try dsimp only at hleJ1
        try dsimp only at hN
        replace hA := hA.up hleJ1
        replace hX := hX.up hleJ1
        replace hE8 := hE8.up hleJ1
        simp only at hi hB5 hszB hO H97
        try dsimp only at hB5
        try dsimp only at hO
        try dsimp only at hi
        try dsimp only at hszB
        refine wpIn_seq ?_
        refine wpIn_seq ?_
        refine w_reg ?_
        refine wl1 H97 (r_move rfl) rfl rfl rfl rfl fun a25 H98 => ?_
        clear H97 a24
        refine wl1 H98 (r_idxA Try.underlying25 sz24 rfl rfl (i := 3) rfl (by omega)) rfl rfl rfl rfl fun a26 H99 => ?_
        clear H98 a25
        refine wl1 H99 (r_load sc24 rfl (hB5.cell rfl)) rfl rfl rfl rfl fun a27 H100 => ?_
        clear H99 a26
        refine wl1 H100 (r_remk rfl rfl (by omega) (by omega)) rfl rfl rfl rfl fun a28 H101 => ?_
        clear H100 a27
        rw [hn3] at H101
        first | refine wl1 H101 (r_convk Try.underlying24 Try.underlying3 rfl (by simp only [InK]; omega)) rfl rfl rfl rfl fun a29 H102 => ?_ | refine wl1 H101 (r_conv Try.underlying24 Try.underlying3 rfl) rfl rfl rfl rfl fun a29 H102 => ?_
        clear H101 a28
        refine wl1 H102 (r_lss rfl rfl) rfl rfl rfl rfl fun a30 H103 => ?_
        clear H102 a29
        refine wl_end ?_
        refine th_n ?_
        first | refine w_if H103 rfl (fun hc72 => ?_) (fun hc72 => ?_) | refine w_cond H103 rfl (fun hc72 => ?_) (fun hc72 => ?_)
        ·
          try simp only [decide_eq_true_eq, decide_eq_false_iff_not, Bool.or_eq_true, Bool.and_eq_true, Bool.or_eq_false_iff, Bool.and_eq_false_iff, Bool.not_eq_true', Bool.not_eq_false', Int.not_lt, Int.not_le, ne_eq, Decidable.not_not] at hc72
          refine wpIn_skip ?_
          refine th_n ?_
          refine wpIn_seq ?_
          refine wpIn_block ?_
          refine w_reg ?_
          refine wl1 H103 (r_move rfl) rfl rfl rfl rfl fun a31 H104 => ?_
          clear H103 a30
          refine wl1 H104 (r_move rfl) rfl rfl rfl rfl fun a32 H105 => ?_
          clear H104 a31
          first | refine wl1 H105 (r_mulk rfl rfl (by simp only [InK]; omega)) rfl rfl rfl rfl fun a33 H106 => ?_ | refine wl1 H105 (r_mul rfl rfl) rfl rfl rfl rfl fun a33 H106 => ?_
          clear H105 a32
          refine wl1 H106 (r_idxA Try.underlying25 sz24 rfl rfl (i := 3) rfl (by omega)) rfl rfl rfl rfl fun a34 H107 => ?_
          clear H106 a33
          refine wl1 H107 (r_load sc24 rfl (hB5.cell rfl)) rfl rfl rfl rfl fun a35 H108 => ?_
          clear H107 a34
          first | refine wl1 H108 (r_convk Try.underlying24 Try.underlying3 rfl (by simp only [InK]; omega)) rfl rfl rfl rfl fun a36 H109 => ?_ | refine wl1 H108 (r_conv Try.underlying24 Try.underlying3 rfl) rfl rfl rfl rfl fun a36 H109 => ?_
          clear H108 a35
          first | refine wl1 H109 (r_subk rfl rfl (by simp only [InK]; omega)) rfl rfl rfl rfl fun a37 H110 => ?_ | refine wl1 H109 (r_sub rfl rfl) rfl rfl rfl rfl fun a37 H110 => ?_
          clear H109 a36
          refine s_lit1 (cs := [_]) H110 Try.underlying29 sz3 zv3 rfl rfl rfl (by simp [Value.oneCell']) rfl hN fun w32 l82 K32 hKl82 hlel82 hN nw32 hgel82 a38 H111 => ?_
          clear H110 a37
          replace hA := hA.up nw32.le
          replace hX := hX.up nw32.le
          replace hE8 := hE8.up nw32.le
          replace hB5 := hB5.next nw32
          replace hO := hO.next nw32
          replace hleJ1 := hleJ1.trans nw32.le
          replace hszB := Nat.le_trans hszB nw32.gr.size
          have hE82 : Els (kInt .i64) K32 (some ⟨l82, 0, none⟩) [7 * (i : Int) - k3] := Els.nums hKl82 (by simp) (by simp only [List.mem_singleton, InK]; rintro x rfl; omega)
          refine s_app (B := B9) H111 rfl rfl Try.underlying29 nf3 rfl (by decide) (by decide) rfl hN hO hE82 rfl (by omega) hszB (by rw [rl_len]; omega) fun vw33 w33 hO hOO hOO2 kw33 hN a39 H112 => ?_
          clear H111 a38
          replace hB5 := hB5.keep kw33 (by omega)
          replace hszB := Nat.le_trans hszB kw33.size
          rw [← rl_succ] at hO
          refine wl1 H112 (r_assign rfl) rfl rfl rfl rfl fun a40 H113 => ?_
          clear H112 a39
          refine wl_end ?_
          refine bl_n ?_
          refine th_n ?_
          refine w_reg ?_
          refine wl1 H113 (r_move rfl) rfl rfl rfl rfl fun a41 H114 => ?_
          clear H113 a40
          first | refine wl1 H114 (r_addk rfl rfl (by simp only [InK]; omega)) rfl rfl rfl rfl fun a42 H115 => ?_ | refine wl1 H114 (r_add rfl rfl) rfl rfl rfl rfl fun a42 H115 => ?_
          clear H114 a41
          refine wl1 H115 (r_assign rfl) rfl rfl rfl rfl fun a43 H116 => ?_
          clear H115 a42
          refine wl_end ?_
          exact th_n ⟨((i + 1, _), K32), (by show n3 - (i + 1) < n3 - i; omega), H116.sub ⟨rfl, rfl, rfl, rfl, rfl, rfl, rfl, trivial⟩, hleJ1, hN, by show i + 1 ≤ n3; omega, hB5, hszB, hO⟩
        ·
          try simp only [decide_eq_true_eq, decide_eq_false_iff_not, Bool.or_eq_true, Bool.and_eq_true, Bool.or_eq_false_iff, Bool.and_eq_false_iff, Bool.not_eq_true', Bool.not_eq_false', Int.not_lt, Int.not_le, ne_eq, Decidable.not_not] at hc72
          rw [show i = n3 by omega] at H103 hO
          refine wpIn_exit ?_
          refine th_x ?_
          refine th_x ?_
          refine bl_hit ?_
          refine th_n ?_
          refine wpIn_seq ?_
          refine w_reg ?_
          obtain ⟨Kz33, Ar, cAr, hN, hleKz33, hsmKz33, rfl, hcAr, hEr⟩ := hO.freeze hN hwB
          replace hB5 := hB5.same (hsmKz33 _ (by omega))
          replace hA := hA.up hleKz33
          replace hX := hX.up hleKz33
          replace hE8 := hE8.up hleKz33
          replace hleJ1 := hleJ1.trans hleKz33
          refine wl1 H103 (r_move rfl) rfl rfl rfl rfl fun a31 H117 => ?_
          clear H103 a30
          obtain ⟨rr, hrr⟩ : ∃ r, r = rl k3 n3 := ⟨_, rfl⟩
          rw [← hrr] at H117 hEr hcAr
          refine wl1 H117 (r_move rfl) rfl rfl rfl rfl fun a32 H118 => ?_
          clear H117 a31
          refine s_lit1 (cs := [_, _]) H118 Try.underlying30 sz22 zv22 rfl rfl rfl (by simp [Value.oneCell']) rfl hN fun w35 l86 K35 hKl86 hlel86 hN nw35 hgel86 a33 H119 => ?_
          clear H118 a32
          replace hA := hA.up nw35.le
          replace hX := hX.up nw35.le
          replace hE8 := hE8.up nw35.le
          replace hEr := hEr.up nw35.le
          replace hB5 := hB5.next nw35
          replace hleJ1 := hleJ1.trans nw35.le
          replace hszB := Nat.le_trans hszB nw35.gr.size
          have hEall : Els (kSl (kInt .u8)) K35 (some ⟨l86, 0, none⟩) [l, pl] := Els.two (us := [_]) (vs := [_]) hKl86 ⟨_, _, rfl, hlc, hA⟩ ⟨_, _, rfl, hc8', hE8⟩
          refine wl1 H119 (r_assign rfl) rfl rfl rfl rfl fun a34 H120 => ?_
          clear H119 a33
          refine wl_end ?_
          refine th_n ?_
          refine wpIn_seq ?_
          refine wpIn_seq ?_
          refine w_reg ?_
          refine wl1 H120 (r_assign rfl) rfl rfl rfl rfl fun a35 H121 => ?_
          clear H120 a34
          refine wl_end ?_
          refine th_n ?_
          refine wpIn_block ?_
          refine w_loop (ι := (Nat) × Im) (fun xJ => (fun i => [(12, .int .i64 (i : Int))]) xJ.1) (fun xJ W => Im.le K35 xJ.2 ∧ New I w xJ.2 W ∧ (fun i (J : Im) => i ≤ 2 ∧ Box J W b5 [.int .u16 k0, .int .u16 k1, .int .u16 k2, .int .u16 k3] 25) xJ.1 xJ.2) (fun xJ => (fun i => 2 - i) xJ.1) (l0 := [(5, _), (7, _), (9, _), (11, _)]) (0, K35) H121 ⟨rfl, rfl, rfl, rfl, rfl, trivial⟩ ⟨Im.le.refl _, hN, Nat.zero_le _, hB5⟩ ?_
          rintro ⟨i, J36⟩ a36 w36 H122 ⟨hleJ2, hN, hi, hB5⟩
          clear H121 a35
          simp only [List.cons_append, List.nil_append] at H122
          try dsimp only at hleJ2
          try dsimp only at hN
          replace hA := hA.up hleJ2
          replace hX := hX.up hleJ2
          replace hE8 := hE8.up hleJ2
          replace hEr := hEr.up hleJ2
          replace hEall := hEall.up hleJ2
          replace hleJ1 := hleJ1.trans hleJ2
          simp only at hi hB5 H122
          try dsimp only at hB5
          try dsimp only at hi
          refine wpIn_seq ?_
          refine wpIn_seq ?_
          refine w_reg ?_
          refine wl1 H122 (r_move rfl) rfl rfl rfl rfl fun a37 H123 => ?_
          clear H122 a36
          refine wl1 H123 (r_move rfl) rfl rfl rfl rfl fun a38 H124 => ?_
          clear H123 a37
          refine wl1 H124 (r_len Try.underlying30 rfl) rfl rfl rfl rfl fun a39 H125 => ?_
          clear H124 a38
          refine wl1 H125 (r_lss rfl rfl) rfl rfl rfl rfl fun a40 H126 => ?_
          clear H125 a39
          refine wl_end ?_
          refine th_n ?_
          first | refine w_if H126 rfl (fun hc90 => ?_) (fun hc90 => ?_) | refine w_cond H126 rfl (fun hc90 => ?_) (fun hc90 => ?_)
          ·
            try simp only [decide_eq_true_eq, decide_eq_false_iff_not, Bool.or_eq_true, Bool.and_eq_true, Bool.or_eq_false_iff, Bool.and_eq_false_iff, Bool.not_eq_true', Bool.not_eq_false', Int.not_lt, Int.not_le, ne_eq, Decidable.not_not] at hc90
            have hi2 : i < [l, pl].length := by simp; omega
            obtain ⟨y, hy⟩ : ∃ y, y = ([l, pl] : List (List Int))[i]'hi2 := ⟨_, rfl⟩
            have hyl : y.length ≤ 65536 := by
              have hm := List.getElem_mem hi2
              rw [← hy] at hm
              simp only [List.mem_cons, List.mem_nil_iff, or_false] at hm
              rcases hm with h | h <;> rw [h] <;> omega
            have hoff := (@jall_off y 0).2
            refine wpIn_skip ?_
            refine th_n ?_
            refine wpIn_seq ?_
            refine wpIn_block ?_
            refine wpIn_seq ?_
            obtain ⟨Ax, cx, hcx, hlx, hEx⟩ := hEall.rowAt hi2
            rw [← hy] at hcx hlx hEx
            have hS0 := hN.sat
            have hNsz19 := hN.gr.size
            have hlt_hB5_19 := hB5.lt
            refine w_drawE (m := 12) (l0 := [(5, _), (7, _), (9, _), (11, _), (12, _)]) hfol H126 ⟨rfl, rfl, rfl, rfl, rfl, trivial⟩ (by kernel_rfl) ?_
            refine ⟨_, false, (fun σ ι w1 hg hd hon => by
                exact OpOK.sub (r := [(5, _), (7, _), (9, _), (11, _), (12, _)]) ⟨rfl, rfl, rfl, rfl, rfl, trivial⟩ (by
                  exact OpOK.eq (r_move rfl))
                ), (fun _ _ _ _ _ _ h => h), (FreeR.no _), ?_⟩
            refine ⟨_, false, (fun σ ι w1 hg hd hon => by
                exact OpOK.sub (r := [(5, _), (7, _), (9, _), (11, _), (12, _)]) ⟨rfl, rfl, rfl, rfl, rfl, trivial⟩ (by
                  exact OpOK.eq (r_move rfl))
                ), (fun _ _ _ _ _ _ h => h), (FreeR.no _), ?_⟩
            refine ⟨_, false, (fun σ ι w1 hg hd hon => by
                have f0 := hd 0 (by decide) _ rfl
                have f1 := hd 1 (by decide) _ rfl
                have e0 : σ 0 = _ := f0.1 trivial
                have e1 : σ 1 = _ := f1.1 trivial
                exact OpOK.sub (r := [(93, _), (94, _), (5, _), (7, _), (9, _), (11, _), (12, _)]) ⟨congrArg some e0, congrArg some e1, rfl, rfl, rfl, rfl, rfl, trivial⟩ (by
                  exact OpOK.eq (r_idx Try.underlying30 sz22 rfl rfl (i := i) rfl (by omega)))
                ), (fun _ _ _ _ _ _ h => h), (FreeR.no _), ?_⟩
            refine ⟨_, false, (fun σ ι w1 hg hd hon => by
                have hN := hN.ofGr ((Gr.refl _).drew.trans hg)
                have hB5 := hB5.gr ((Gr.refl _).drew.trans hg)
                have f2 := hd 2 (by decide) _ rfl
                have e2 : σ 2 = _ := f2.1 trivial
                exact OpOK.sub (r := [(95, _), (5, _), (7, _), (9, _), (11, _), (12, _)]) ⟨congrArg some e2, rfl, rfl, rfl, rfl, rfl, trivial⟩ (by
                  exact OpOK.eq (r_load sc22 rfl (hN.sat.cell hcx)))
                ), (fun _ _ _ _ _ _ h => h), (FreeR.no _), ?_⟩
            refine ⟨_, true, (fun σ ι w1 hg hd hon => by
                have hN := hN.ofGr ((Gr.refl _).drew.trans hg)
                have hB5 := hB5.gr ((Gr.refl _).drew.trans hg)
                have f3 := hd 3 (by decide) _ rfl
                have e3 : σ 3 = _ := f3.1 trivial
                skip
                exact CallOK.sub (r := [(96, _), (5, _), (7, _), (9, _), (11, _), (12, _)]) ⟨congrArg some e3, rfl, rfl, rfl, rfl, rfl, trivial⟩ (by
                  exact CallOK.M (Φ := LR y) (enters_of rfl rfl hb12) (lreadΦ (l := y) hN.sat hEx hlx (by omega)))
                ), (by exact monoOwn (J := J36) (Φ := fun _ => LR y)), (fun _ _ _ _ _ _ h => h), ?_⟩
            refine ⟨_, false, (fun σ ι w1 hg hd hon => by
                exact OpOK.sub (r := [(5, _), (7, _), (9, _), (11, _), (12, _)]) ⟨rfl, rfl, rfl, rfl, rfl, trivial⟩ (by
                  exact OpOK.eq (r_move rfl))
                ), (fun _ _ _ _ _ _ h => h), (FreeR.no _), ?_⟩
            refine ⟨_, false, (fun σ ι w1 hg hd hon => by
                exact OpOK.sub (r := [(5, _), (7, _), (9, _), (11, _), (12, _)]) ⟨rfl, rfl, rfl, rfl, rfl, trivial⟩ (by
                  exact OpOK.eq (r_move rfl))
                ), (fun _ _ _ _ _ _ h => h), (FreeR.no _), ?_⟩
            refine ⟨_, false, (fun σ ι w1 hg hd hon => by
                have f5 := hd 5 (by decide) _ rfl
                have f6 := hd 6 (by decide) _ rfl
                have e5 : σ 5 = _ := f5.1 trivial
                have e6 : σ 6 = _ := f6.1 trivial
                exact OpOK.sub (r := [(98, _), (99, _), (5, _), (7, _), (9, _), (11, _), (12, _)]) ⟨congrArg some e5, congrArg some e6, rfl, rfl, rfl, rfl, rfl, trivial⟩ (by
                  exact OpOK.eq (r_idx Try.underlying30 sz22 rfl rfl (i := i) rfl (by omega)))
                ), (fun _ _ _ _ _ _ h => h), (FreeR.no _), ?_⟩
            refine ⟨_, false, (fun σ ι w1 hg hd hon => by
                have hN := hN.ofGr ((Gr.refl _).drew.trans hg)
                have hB5 := hB5.gr ((Gr.refl _).drew.trans hg)
                have f7 := hd 7 (by decide) _ rfl
                have e7 : σ 7 = _ := f7.1 trivial
                exact OpOK.sub (r := [(100, _), (5, _), (7, _), (9, _), (11, _), (12, _)]) ⟨congrArg some e7, rfl, rfl, rfl, rfl, rfl, trivial⟩ (by
                  exact OpOK.eq (r_load sc22 rfl (hN.sat.cell hcx)))
                ), (fun _ _ _ _ _ _ h => h), (FreeR.no _), ?_⟩
            refine ⟨_, true, (fun σ ι w1 hg hd hon => by
                have hN := hN.ofGr ((Gr.refl _).drew.trans hg)
                have hB5 := hB5.gr ((Gr.refl _).drew.trans hg)
                have f8 := hd 8 (by decide) _ rfl
                have e8 : σ 8 = _ := f8.1 trivial
                skip
                exact CallOK.sub (r := [(101, _), (5, _), (7, _), (9, _), (11, _), (12, _)]) ⟨congrArg some e8, rfl, rfl, rfl, rfl, rfl, trivial⟩ (by
                  exact CallOK.M (Φ := RR y) (enters_of rfl rfl hb13) (rreadΦ (l := y) hN.sat hEx hlx (by omega)))
                ), (by exact monoOwn (J := J36) (Φ := fun _ => RR y)), (fun _ _ _ _ _ _ h => h), ?_⟩
            refine ⟨_, false, (fun σ ι w1 hg hd hon => by
                exact OpOK.sub (r := [(5, _), (7, _), (9, _), (11, _), (12, _)]) ⟨rfl, rfl, rfl, rfl, rfl, trivial⟩ (by exact OpOK.alloc (cs := [.slice none 0 0, .slice none 0 0, .int .i64 0, .int .i64 0, .int .u64 0]) zv34 rfl)
                ), (by intro σ v q w w' hg h; obtain ⟨h1, h2, h3⟩ := h; exact ⟨h1, h2, h3.gr hg⟩), (FreeR.no _), ?_⟩
            refine ⟨_, false, (fun σ ι w1 hg hd hon => by
                exact OpOK.sub (r := [(5, _), (7, _), (9, _), (11, _), (12, _)]) ⟨rfl, rfl, rfl, rfl, rfl, trivial⟩ (by exact OpOK.alloc (cs := [.slice none 0 0, .slice none 0 0, .int .i64 0, .int .i64 0, .int .u64 0]) zv34 rfl)
                ), (by intro σ v q w w' hg h; obtain ⟨h1, h2, h3⟩ := h; exact ⟨h1, h2, h3.gr hg⟩), (FreeR.no _), ?_⟩
            intro σ ι a41 w38 hgw38 H127 hd hap
            skip
            have hN0 := hN
            have hN := hN.ofGr ((Gr.refl _).drew.trans hgw38)
            have hNd := (New.refl (hS0.drewS)).ofGr hgw38
            obtain ⟨K4, hP4, A3a, c3a, A3b, c3b, e4, hc3a, hE3a, hc3b, hE3b⟩ := (hd 4 (by decide) _ rfl).1 trivial
            replace hE3a := hE3a.up (joinI_right hNd.sat hP4.sat)
            replace hE3b := hE3b.up (joinI_right hNd.sat hP4.sat)
            replace hNd := hNd.part hNd.le hP4 (hap.1 4 (by decide)).1
            obtain ⟨K9, hP9, A4a, c4a, A4b, c4b, e9, hc4a, hE4a, hc4b, hE4b⟩ := (hd 9 (by decide) _ rfl).1 trivial
            replace hE4a := hE4a.up (joinI_right hNd.sat hP9.sat)
            replace hE4b := hE4b.up (joinI_right hNd.sat hP9.sat)
            replace hE3a := hE3a.up (joinI_left (joinI J36 K4) K9)
            replace hE3b := hE3b.up (joinI_left (joinI J36 K4) K9)
            replace hNd := hNd.part hNd.le hP9 (hap.1 9 (by decide)).1
            replace hB5 := (hB5.gr (Gr.refl _).drew).next hNd
            replace hA := hA.up hNd.le
            replace hX := hX.up hNd.le
            replace hE8 := hE8.up hNd.le
            replace hEr := hEr.up hNd.le
            replace hEall := hEall.up hNd.le
            replace hleJ1 := hleJ1.trans hNd.le
            replace hleJ2 := hleJ2.trans hNd.le
            have hN := hN0.drew.trans hNd
            obtain ⟨e10, hlqb13, hblb13⟩ := (hd 10 (by decide) _ rfl).1 trivial
            have hg0b13 := (hap.1 10 (by decide)).1
            have hJ0b13 := hS0.fresh hg0b13
            have hB13 : Box (joinI (joinI J36 K4) K9) w38 _ [.slice none 0 0, .slice none 0 0, .int .i64 0, .int .i64 0, .int .u64 0] 34 := ⟨hblb13, (joinI_none (joinI_none hJ0b13 (hP4.none hJ0b13 (by have := hap.2 4 10 (by decide) (by decide) (by decide); omega))) (hP9.none hJ0b13 (by have := hap.2 9 10 (by decide) (by decide) (by decide); omega)))⟩
            obtain ⟨e11, hlqb14, hblb14⟩ := (hd 11 (by decide) _ rfl).1 trivial
            have hg0b14 := (hap.1 11 (by decide)).1
            have hJ0b14 := hS0.fresh hg0b14
            have hB14 : Box (joinI (joinI J36 K4) K9) w38 _ [.slice none 0 0, .slice none 0 0, .int .i64 0, .int .i64 0, .int .u64 0] 34 := ⟨hblb14, (joinI_none (joinI_none hJ0b14 (hP4.none hJ0b14 (by have := hap.2 4 11 (by decide) (by decide) (by decide); omega))) (hP9.none hJ0b14 (by have := hap.2 9 11 (by decide) (by decide) (by decide); omega)))⟩
            replace H127 := H127.sub (r := [(97, _), (102, _), (13, _), (14, _), (5, _), (7, _), (9, _), (11, _), (12, _)]) ⟨congrArg some e4, congrArg some e9, congrArg some e10, congrArg some e11, rfl, rfl, rfl, rfl, rfl, trivial⟩
            clear hd
            have hne_hB13_b14 : (ι 10).1 ≠ (ι 11).1 := by have := hap.2 10 11 (by decide) (by decide) (by decide); omega
            have hgeb13 := Nat.le_trans hNsz19 hg0b13
            clear hlqb13 hblb13 hJ0b13
            have hne_hB5_b13 := Nat.lt_of_lt_of_le hlt_hB5_19 hg0b13
            have hgeb14 := Nat.le_trans hNsz19 hg0b14
            clear hlqb14 hblb14 hJ0b14
            have hne_hB5_b14 := Nat.lt_of_lt_of_le hlt_hB5_19 hg0b14
            generalize (ι 10).1 = b13 at *
            generalize (ι 11).1 = b14 at *
            clear hap
            refine s_storeA (vs := [_, _, _, _, _]) H127 sz34 (by simp) (by simp [Value.oneCell']) rfl rfl hN hB13 (by simp) hgeb13 fun w39 hN hB13 ew39 H128 => ?_
            clear H127
            replace hB5 := hB5.otherE ew39 (by omega)
            replace hB14 := hB14.otherE ew39 (by omega)
            simp only [Nat.zero_add, Nat.add_zero, Nat.reduceAdd, Nat.reduceMul, List.set_cons_zero, List.set_cons_succ, spliceL] at hB13
            clear ew39
            refine s_storeA (vs := [_, _, _, _, _]) H128 sz34 (by simp) (by simp [Value.oneCell']) rfl rfl hN hB14 (by simp) hgeb14 fun w40 hN hB14 ew40 H129 => ?_
            clear H128
            replace hB5 := hB5.otherE ew40 (by omega)
            replace hB13 := hB13.otherE ew40 (by omega)
            simp only [Nat.zero_add, Nat.add_zero, Nat.reduceAdd, Nat.reduceMul, List.set_cons_zero, List.set_cons_succ, spliceL] at hB14
            clear ew40
            refine wl_end ?_
            refine th_n ?_
            refine wpIn_seq ?_
            obtain ⟨Ax, cx, hcx, hlx, hEx⟩ := hEall.rowAt hi2
            rw [← hy] at hcx hlx hEx
            have hS0 := hN.sat
            have hNsz20 := hN.gr.size
            have hlt_hB5_20 := hB5.lt
            have hlt_hB13_20 := hB13.lt
            have hlt_hB14_20 := hB14.lt
            refine w_drawE (m := 14) (l0 := [(5, _), (7, _), (9, _), (11, _), (12, _), (13, _), (14, _)]) hfol H129 ⟨rfl, rfl, rfl, rfl, rfl, rfl, rfl, trivial⟩ (by kernel_rfl) ?_
            refine ⟨_, false, (fun σ ι w1 hg hd hon => by
                exact OpOK.sub (r := [(5, _), (7, _), (9, _), (11, _), (12, _), (13, _), (14, _)]) ⟨rfl, rfl, rfl, rfl, rfl, rfl, rfl, trivial⟩ (by
                  exact OpOK.eq (r_move rfl))
                ), (fun _ _ _ _ _ _ h => h), (FreeR.no _), ?_⟩
            refine ⟨_, false, (fun σ ι w1 hg hd hon => by
                exact OpOK.sub (r := [(5, _), (7, _), (9, _), (11, _), (12, _), (13, _), (14, _)]) ⟨rfl, rfl, rfl, rfl, rfl, rfl, rfl, trivial⟩ (by
                  exact OpOK.eq (r_move rfl))
                ), (fun _ _ _ _ _ _ h => h), (FreeR.no _), ?_⟩
            refine ⟨_, false, (fun σ ι w1 hg hd hon => by
                have f0 := hd 0 (by decide) _ rfl
                have f1 := hd 1 (by decide) _ rfl
                have e0 : σ 0 = _ := f0.1 trivial
                have e1 : σ 1 = _ := f1.1 trivial
                exact OpOK.sub (r := [(103, _), (104, _), (5, _), (7, _), (9, _), (11, _), (12, _), (13, _), (14, _)]) ⟨congrArg some e0, congrArg some e1, rfl, rfl, rfl, rfl, rfl, rfl, rfl, trivial⟩ (by
                  exact OpOK.eq (r_idx Try.underlying30 sz22 rfl rfl (i := i) rfl (by omega)))
                ), (fun _ _ _ _ _ _ h => h), (FreeR.no _), ?_⟩
            refine ⟨_, false, (fun σ ι w1 hg hd hon => by
                have hN := hN.ofGr ((Gr.refl _).drew.trans hg)
                have hB5 := hB5.gr ((Gr.refl _).drew.trans hg)
                have hB13 := hB13.gr ((Gr.refl _).drew.trans hg)
                have hB14 := hB14.gr ((Gr.refl _).drew.trans hg)
                have f2 := hd 2 (by decide) _ rfl
                have e2 : σ 2 = _ := f2.1 trivial
                exact OpOK.sub (r := [(105, _), (5, _), (7, _), (9, _), (11, _), (12, _), (13, _), (14, _)]) ⟨congrArg some e2, rfl, rfl, rfl, rfl, rfl, rfl, rfl, trivial⟩ (by
                  exact OpOK.eq (r_load sc22 rfl (hN.sat.cell hcx)))
                ), (fun _ _ _ _ _ _ h => h), (FreeR.no _), ?_⟩
            refine ⟨_, false, (fun σ ι w1 hg hd hon => by
                exact OpOK.sub (r := [(5, _), (7, _), (9, _), (11, _), (12, _), (13, _), (14, _)]) ⟨rfl, rfl, rfl, rfl, rfl, rfl, rfl, trivial⟩ (by
                  exact OpOK.eq (r_move rfl))
                ), (fun _ _ _ _ _ _ h => h), (FreeR.no _), ?_⟩
            refine ⟨_, true, (fun σ ι w1 hg hd hon => by
                have hN := hN.ofGr ((Gr.refl _).drew.trans hg)
                have hB5 := hB5.gr ((Gr.refl _).drew.trans hg)
                have hB13 := hB13.gr ((Gr.refl _).drew.trans hg)
                have hB14 := hB14.gr ((Gr.refl _).drew.trans hg)
                have f3 := hd 3 (by decide) _ rfl
                have f4 := hd 4 (by decide) _ rfl
                have e3 : σ 3 = _ := f3.1 trivial
                have e4 : σ 4 = _ := f4.1 trivial
                skip
                exact CallOK.sub (r := [(106, _), (107, _), (5, _), (7, _), (9, _), (11, _), (12, _), (13, _), (14, _)]) ⟨congrArg some e3, congrArg some e4, rfl, rfl, rfl, rfl, rfl, rfl, rfl, trivial⟩ (by
                  exact CallOK.M (Φ := PR y rr) (enters_of rfl rfl hb14) (lputΦ (l := y) (rec := rr) hN.sat hEx hlx (by omega) hEr hcAr))
                ), (by exact monoOwn (J := (joinI (joinI J36 K4) K9)) (Φ := fun _ => PR y rr)), (fun _ _ _ _ _ _ h => h), ?_⟩
            refine ⟨_, false, (fun σ ι w1 hg hd hon => by
                exact OpOK.sub (r := [(5, _), (7, _), (9, _), (11, _), (12, _), (13, _), (14, _)]) ⟨rfl, rfl, rfl, rfl, rfl, rfl, rfl, trivial⟩ (by
                  exact OpOK.eq (r_move rfl))
                ), (fun _ _ _ _ _ _ h => h), (FreeR.no _), ?_⟩
            refine ⟨_, false, (fun σ ι w1 hg hd hon => by
                exact OpOK.sub (r := [(5, _), (7, _), (9, _), (11, _), (12, _), (13, _), (14, _)]) ⟨rfl, rfl, rfl, rfl, rfl, rfl, rfl, trivial⟩ (by
                  exact OpOK.eq (r_move rfl))
                ), (fun _ _ _ _ _ _ h => h), (FreeR.no _), ?_⟩
            refine ⟨_, false, (fun σ ι w1 hg hd hon => by
                have f6 := hd 6 (by decide) _ rfl
                have f7 := hd 7 (by decide) _ rfl
                have e6 : σ 6 = _ := f6.1 trivial
                have e7 : σ 7 = _ := f7.1 trivial
                exact OpOK.sub (r := [(109, _), (110, _), (5, _), (7, _), (9, _), (11, _), (12, _), (13, _), (14, _)]) ⟨congrArg some e6, congrArg some e7, rfl, rfl, rfl, rfl, rfl, rfl, rfl, trivial⟩ (by
                  exact OpOK.eq (r_idx Try.underlying30 sz22 rfl rfl (i := i) rfl (by omega)))
                ), (fun _ _ _ _ _ _ h => h), (FreeR.no _), ?_⟩
            refine ⟨_, false, (fun σ ι w1 hg hd hon => by
                have hN := hN.ofGr ((Gr.refl _).drew.trans hg)
                have hB5 := hB5.gr ((Gr.refl _).drew.trans hg)
                have hB13 := hB13.gr ((Gr.refl _).drew.trans hg)
                have hB14 := hB14.gr ((Gr.refl _).drew.trans hg)
                have f8 := hd 8 (by decide) _ rfl
                have e8 : σ 8 = _ := f8.1 trivial
                exact OpOK.sub (r := [(111, _), (5, _), (7, _), (9, _), (11, _), (12, _), (13, _), (14, _)]) ⟨congrArg some e8, rfl, rfl, rfl, rfl, rfl, rfl, rfl, trivial⟩ (by
                  exact OpOK.eq (r_load sc22 rfl (hN.sat.cell hcx)))
                ), (fun _ _ _ _ _ _ h => h), (FreeR.no _), ?_⟩
            refine ⟨_, false, (fun σ ι w1 hg hd hon => by
                exact OpOK.sub (r := [(5, _), (7, _), (9, _), (11, _), (12, _), (13, _), (14, _)]) ⟨rfl, rfl, rfl, rfl, rfl, rfl, rfl, trivial⟩ (by
                  exact OpOK.eq (r_move rfl))
                ), (fun _ _ _ _ _ _ h => h), (FreeR.no _), ?_⟩
            refine ⟨_, true, (fun σ ι w1 hg hd hon => by
                have hN := hN.ofGr ((Gr.refl _).drew.trans hg)
                have hB5 := hB5.gr ((Gr.refl _).drew.trans hg)
                have hB13 := hB13.gr ((Gr.refl _).drew.trans hg)
                have hB14 := hB14.gr ((Gr.refl _).drew.trans hg)
                have f9 := hd 9 (by decide) _ rfl
                have f10 := hd 10 (by decide) _ rfl
                have e9 : σ 9 = _ := f9.1 trivial
                have e10 : σ 10 = _ := f10.1 trivial
                skip
                exact CallOK.sub (r := [(112, _), (113, _), (5, _), (7, _), (9, _), (11, _), (12, _), (13, _), (14, _)]) ⟨congrArg some e9, congrArg some e10, rfl, rfl, rfl, rfl, rfl, rfl, rfl, trivial⟩ (by
                  exact CallOK.M (Φ := PR y rr) (enters_of rfl rfl hb15) (rputΦ (l := y) (rec := rr) hN.sat hEx hlx (by omega) hEr hcAr))
                ), (by exact monoOwn (J := (joinI (joinI J36 K4) K9)) (Φ := fun _ => PR y rr)), (fun _ _ _ _ _ _ h => h), ?_⟩
            refine ⟨_, false, (fun σ ι w1 hg hd hon => by
                exact OpOK.sub (r := [(5, _), (7, _), (9, _), (11, _), (12, _), (13, _), (14, _)]) ⟨rfl, rfl, rfl, rfl, rfl, rfl, rfl, trivial⟩ (by exact OpOK.alloc (cs := [.slice none 0 0, .int .i64 0]) zv37 rfl)
                ), (by intro σ v q w w' hg h; obtain ⟨h1, h2, h3⟩ := h; exact ⟨h1, h2, h3.gr hg⟩), (FreeR.no _), ?_⟩
            refine ⟨_, false, (fun σ ι w1 hg hd hon => by
                exact OpOK.sub (r := [(5, _), (7, _), (9, _), (11, _), (12, _), (13, _), (14, _)]) ⟨rfl, rfl, rfl, rfl, rfl, rfl, rfl, trivial⟩ (by exact OpOK.alloc (cs := [.slice none 0 0, .int .i64 0]) zv37 rfl)
                ), (by intro σ v q w w' hg h; obtain ⟨h1, h2, h3⟩ := h; exact ⟨h1, h2, h3.gr hg⟩), (FreeR.no _), ?_⟩
            intro σ ι a42 w42 hgw42 H130 hd hap
            skip
            have hN0 := hN
            have hN := hN.ofGr ((Gr.refl _).drew.trans hgw42)
            have hNd := (New.refl (hS0.drewS)).ofGr hgw42
            obtain ⟨K5, hP5, A5a, c5a, e5, hc5a, hE5a⟩ := (hd 5 (by decide) _ rfl).1 trivial
            replace hE5a := hE5a.up (joinI_right hNd.sat hP5.sat)
            replace hNd := hNd.part hNd.le hP5 (hap.1 5 (by decide)).1
            obtain ⟨K11, hP11, A6a, c6a, e11, hc6a, hE6a⟩ := (hd 11 (by decide) _ rfl).1 trivial
            replace hE6a := hE6a.up (joinI_right hNd.sat hP11.sat)
            replace hE5a := hE5a.up (joinI_left (joinI (joinI (joinI J36 K4) K9) K5) K11)
            replace hNd := hNd.part hNd.le hP11 (hap.1 11 (by decide)).1
            replace hB5 := (hB5.gr (Gr.refl _).drew).next hNd
            replace hB13 := (hB13.gr (Gr.refl _).drew).next hNd
            replace hB14 := (hB14.gr (Gr.refl _).drew).next hNd
            replace hA := hA.up hNd.le
            replace hX := hX.up hNd.le
            replace hE8 := hE8.up hNd.le
            replace hEr := hEr.up hNd.le
            replace hEall := hEall.up hNd.le
            replace hE3a := hE3a.up hNd.le
            replace hE3b := hE3b.up hNd.le
            replace hE4a := hE4a.up hNd.le
            replace hE4b := hE4b.up hNd.le
            replace hleJ1 := hleJ1.trans hNd.le
            replace hleJ2 := hleJ2.trans hNd.le
            have hN := hN0.drew.trans hNd
            obtain ⟨e12, hlqb15, hblb15⟩ := (hd 12 (by decide) _ rfl).1 trivial
            have hg0b15 := (hap.1 12 (by decide)).1
            have hJ0b15 := hS0.fresh hg0b15
            have hB15 : Box (joinI (joinI (joinI (joinI J36 K4) K9) K5) K11) w42 _ [.slice none 0 0, .int .i64 0] 37 := ⟨hblb15, (joinI_none (joinI_none hJ0b15 (hP5.none hJ0b15 (by have := hap.2 5 12 (by decide) (by decide) (by decide); omega))) (hP11.none hJ0b15 (by have := hap.2 11 12 (by decide) (by decide) (by decide); omega)))⟩
            obtain ⟨e13, hlqb16, hblb16⟩ := (hd 13 (by decide) _ rfl).1 trivial
            have hg0b16 := (hap.1 13 (by decide)).1
            have hJ0b16 := hS0.fresh hg0b16
            have hB16 : Box (joinI (joinI (joinI (joinI J36 K4) K9) K5) K11) w42 _ [.slice none 0 0, .int .i64 0] 37 := ⟨hblb16, (joinI_none (joinI_none hJ0b16 (hP5.none hJ0b16 (by have := hap.2 5 13 (by decide) (by decide) (by decide); omega))) (hP11.none hJ0b16 (by have := hap.2 11 13 (by decide) (by decide) (by decide); omega)))⟩
            replace H130 := H130.sub (r := [(108, _), (114, _), (15, _), (16, _), (5, _), (7, _), (9, _), (11, _), (12, _), (13, _), (14, _)]) ⟨congrArg some e5, congrArg some e11, congrArg some e12, congrArg some e13, rfl, rfl, rfl, rfl, rfl, rfl, rfl, trivial⟩
            clear hd
            have hne_hB15_b16 : (ι 12).1 ≠ (ι 13).1 := by have := hap.2 12 13 (by decide) (by decide) (by decide); omega
            have hgeb15 := Nat.le_trans hNsz20 hg0b15
            clear hlqb15 hblb15 hJ0b15
            have hne_hB5_b15 := Nat.lt_of_lt_of_le hlt_hB5_20 hg0b15
            have hne_hB13_b15 := Nat.lt_of_lt_of_le hlt_hB13_20 hg0b15
            have hne_hB14_b15 := Nat.lt_of_lt_of_le hlt_hB14_20 hg0b15
            have hgeb16 := Nat.le_trans hNsz20 hg0b16
            clear hlqb16 hblb16 hJ0b16
            have hne_hB5_b16 := Nat.lt_of_lt_of_le hlt_hB5_20 hg0b16
            have hne_hB13_b16 := Nat.lt_of_lt_of_le hlt_hB13_20 hg0b16
            have hne_hB14_b16 := Nat.lt_of_lt_of_le hlt_hB14_20 hg0b16
            generalize (ι 12).1 = b15 at *
            generalize (ι 13).1 = b16 at *
            clear hap
            refine s_storeA (vs := [_, _]) H130 sz37 (by simp) (by simp [Value.oneCell']) rfl rfl hN hB15 (by simp) hgeb15 fun w43 hN hB15 ew43 H131 => ?_
            clear H130
            replace hB5 := hB5.otherE ew43 (by omega)
            replace hB13 := hB13.otherE ew43 (by omega)
            replace hB14 := hB14.otherE ew43 (by omega)
            replace hB16 := hB16.otherE ew43 (by omega)
            simp only [Nat.zero_add, Nat.add_zero, Nat.reduceAdd, Nat.reduceMul, List.set_cons_zero, List.set_cons_succ, spliceL] at hB15
            clear ew43
            refine s_storeA (vs := [_, _]) H131 sz37 (by simp) (by simp [Value.oneCell']) rfl rfl hN hB16 (by simp) hgeb16 fun w44 hN hB16 ew44 H132 => ?_
            clear H131
            replace hB5 := hB5.otherE ew44 (by omega)
            replace hB13 := hB13.otherE ew44 (by omega)
            replace hB14 := hB14.otherE ew44 (by omega)
            replace hB15 := hB15.otherE ew44 (by omega)
            simp only [Nat.zero_add, Nat.add_zero, Nat.reduceAdd, Nat.reduceMul, List.set_cons_zero, List.set_cons_succ, spliceL] at hB16
            clear ew44
            refine wl_end ?_
            refine th_n ?_
            refine wpIn_seq ?_
            refine wpIn_seq ?_
            obtain ⟨Ax, cx, hcx, hlx, hEx⟩ := hEall.rowAt hi2
            rw [← hy] at hcx hlx hEx
            have hS0 := hN.sat
            have hNsz21 := hN.gr.size
            refine w_drawE (m := 50) (l0 := [(5, _), (7, _), (9, _), (11, _), (12, _), (13, _), (14, _), (15, _), (16, _)]) hfol H132 ⟨rfl, rfl, rfl, rfl, rfl, rfl, rfl, rfl, rfl, trivial⟩ (by kernel_rfl) ?_
            refine ⟨_, false, (fun σ ι w1 hg hd hon => by
                exact OpOK.sub (r := [(5, _), (7, _), (9, _), (11, _), (12, _), (13, _), (14, _), (15, _), (16, _)]) ⟨rfl, rfl, rfl, rfl, rfl, rfl, rfl, rfl, rfl, trivial⟩ (by
                  exact OpOK.eq (r_fld fld34_2 rfl))
                ), (fun _ _ _ _ _ _ h => h), (FreeR.no _), ?_⟩
            refine ⟨_, false, (fun σ ι w1 hg hd hon => by
                have hN := hN.ofGr ((Gr.refl _).drew.trans hg)
                have hB5 := hB5.gr ((Gr.refl _).drew.trans hg)
                have hB13 := hB13.gr ((Gr.refl _).drew.trans hg)
                have hB14 := hB14.gr ((Gr.refl _).drew.trans hg)
                have hB15 := hB15.gr ((Gr.refl _).drew.trans hg)
                have hB16 := hB16.gr ((Gr.refl _).drew.trans hg)
                have f0 := hd 0 (by decide) _ rfl
                have e0 : σ 0 = _ := f0.1 trivial
                exact OpOK.sub (r := [(115, _), (5, _), (7, _), (9, _), (11, _), (12, _), (13, _), (14, _), (15, _), (16, _)]) ⟨congrArg some e0, rfl, rfl, rfl, rfl, rfl, rfl, rfl, rfl, rfl, trivial⟩ (by
                  exact OpOK.eq (r_load sc31 rfl (hB13.cell rfl)))
                ), (fun _ _ _ _ _ _ h => h), (FreeR.no _), ?_⟩
            refine ⟨_, false, (fun σ ι w1 hg hd hon => by
                exact OpOK.sub (r := [(5, _), (7, _), (9, _), (11, _), (12, _), (13, _), (14, _), (15, _), (16, _)]) ⟨rfl, rfl, rfl, rfl, rfl, rfl, rfl, rfl, rfl, trivial⟩ (by
                  exact OpOK.eq (r_fld fld34_2 rfl))
                ), (fun _ _ _ _ _ _ h => h), (FreeR.no _), ?_⟩
            refine ⟨_, false, (fun σ ι w1 hg hd hon => by
                have hN := hN.ofGr ((Gr.refl _).drew.trans hg)
                have hB5 := hB5.gr ((Gr.refl _).drew.trans hg)
                have hB13 := hB13.gr ((Gr.refl _).drew.trans hg)
                have hB14 := hB14.gr ((Gr.refl _).drew.trans hg)
                have hB15 := hB15.gr ((Gr.refl _).drew.trans hg)
                have hB16 := hB16.gr ((Gr.refl _).drew.trans hg)
                have f2 := hd 2 (by decide) _ rfl
                have e2 : σ 2 = _ := f2.1 trivial
                exact OpOK.sub (r := [(117, _), (5, _), (7, _), (9, _), (11, _), (12, _), (13, _), (14, _), (15, _), (16, _)]) ⟨congrArg some e2, rfl, rfl, rfl, rfl, rfl, rfl, rfl, rfl, rfl, trivial⟩ (by
                  exact OpOK.eq (r_load sc31 rfl (hB14.cell rfl)))
                ), (fun _ _ _ _ _ _ h => h), (FreeR.no _), ?_⟩
            refine ⟨_, false, (fun σ ι w1 hg hd hon => by
                have f1 := hd 1 (by decide) _ rfl
                have f3 := hd 3 (by decide) _ rfl
                have e1 : σ 1 = _ := f1.1 trivial
                have e3 : σ 3 = _ := f3.1 trivial
                exact OpOK.sub (r := [(116, _), (118, _), (5, _), (7, _), (9, _), (11, _), (12, _), (13, _), (14, _), (15, _), (16, _)]) ⟨congrArg some e1, congrArg some e3, rfl, rfl, rfl, rfl, rfl, rfl, rfl, rfl, rfl, trivial⟩ (by
                  exact OpOK.eq (r_neq rfl rfl))
                ), (fun _ _ _ _ _ _ h => h), (FreeR.no _), ?_⟩
            refine ⟨_, false, (fun σ ι w1 hg hd hon => by
                have f4 := hd 4 (by decide) _ rfl
                have e4 : σ 4 = _ := f4.1 trivial
                exact OpOK.sub (r := [(119, _), (5, _), (7, _), (9, _), (11, _), (12, _), (13, _), (14, _), (15, _), (16, _)]) ⟨congrArg some e4, rfl, rfl, rfl, rfl, rfl, rfl, rfl, rfl, rfl, trivial⟩ (by
                  exact OpOK.eq (r_move rfl))
                ), (fun _ _ _ _ _ _ h => h), (FreeR.no _), ?_⟩
            refine ⟨_, false, (fun σ ι w1 hg hd hon => by
                have f5 := hd 5 (by decide) _ rfl
                have e5 : σ 5 = _ := f5.1 trivial
                have hgd : σ 5 = .bool false := hon
                have hgb := (f5.1 trivial : σ 5 = _).symm.trans hgd
                simp only [Value.bool.injEq] at hgb
                try simp only [decide_eq_true_eq, decide_eq_false_iff_not, Bool.or_eq_true, Bool.and_eq_true, Bool.or_eq_false_iff, Bool.and_eq_false_iff, Bool.not_eq_true', Bool.not_eq_false', Int.not_lt, Int.not_le, ne_eq, Decidable.not_not] at hgb
                exact OpOK.sub (r := [(5, _), (7, _), (9, _), (11, _), (12, _), (13, _), (14, _), (15, _), (16, _)]) ⟨rfl, rfl, rfl, rfl, rfl, rfl, rfl, rfl, rfl, trivial⟩ (by
                  exact OpOK.eq (r_fld fld34_0 rfl))
                ), (fun _ _ _ _ _ _ h => h), (FreeR.no _), ?_⟩
            refine ⟨_, false, (fun σ ι w1 hg hd hon => by
                have hN := hN.ofGr ((Gr.refl _).drew.trans hg)
                have hB5 := hB5.gr ((Gr.refl _).drew.trans hg)
                have hB13 := hB13.gr ((Gr.refl _).drew.trans hg)
                have hB14 := hB14.gr ((Gr.refl _).drew.trans hg)
                have hB15 := hB15.gr ((Gr.refl _).drew.trans hg)
                have hB16 := hB16.gr ((Gr.refl _).drew.trans hg)
                have f6 := hd 6 (by decide) _ rfl
                have f5 := hd 5 (by decide) _ rfl
                have e6 : σ 6 = _ := f6.1 hon
                have e5 : σ 5 = _ := f5.1 trivial
                have hgd : σ 5 = .bool false := hon
                have hgb := (f5.1 trivial : σ 5 = _).symm.trans hgd
                simp only [Value.bool.injEq] at hgb
                try simp only [decide_eq_true_eq, decide_eq_false_iff_not, Bool.or_eq_true, Bool.and_eq_true, Bool.or_eq_false_iff, Bool.and_eq_false_iff, Bool.not_eq_true', Bool.not_eq_false', Int.not_lt, Int.not_le, ne_eq, Decidable.not_not] at hgb
                exact OpOK.sub (r := [(121, _), (5, _), (7, _), (9, _), (11, _), (12, _), (13, _), (14, _), (15, _), (16, _)]) ⟨congrArg some e6, rfl, rfl, rfl, rfl, rfl, rfl, rfl, rfl, rfl, trivial⟩ (by
                  exact OpOK.eq (r_load sc23 rfl (hB13.cell rfl)))
                ), (fun _ _ _ _ _ _ h => h), (FreeR.no _), ?_⟩
            refine ⟨_, false, (fun σ ι w1 hg hd hon => by
                have f5 := hd 5 (by decide) _ rfl
                have e5 : σ 5 = _ := f5.1 trivial
                have hgd : σ 5 = .bool false := hon
                have hgb := (f5.1 trivial : σ 5 = _).symm.trans hgd
                simp only [Value.bool.injEq] at hgb
                try simp only [decide_eq_true_eq, decide_eq_false_iff_not, Bool.or_eq_true, Bool.and_eq_true, Bool.or_eq_false_iff, Bool.and_eq_false_iff, Bool.not_eq_true', Bool.not_eq_false', Int.not_lt, Int.not_le, ne_eq, Decidable.not_not] at hgb
                exact OpOK.sub (r := [(5, _), (7, _), (9, _), (11, _), (12, _), (13, _), (14, _), (15, _), (16, _)]) ⟨rfl, rfl, rfl, rfl, rfl, rfl, rfl, rfl, rfl, trivial⟩ (by
                  exact OpOK.eq (r_fld fld34_0 rfl))
                ), (fun _ _ _ _ _ _ h => h), (FreeR.no _), ?_⟩
            refine ⟨_, false, (fun σ ι w1 hg hd hon => by
                have hN := hN.ofGr ((Gr.refl _).drew.trans hg)
                have hB5 := hB5.gr ((Gr.refl _).drew.trans hg)
                have hB13 := hB13.gr ((Gr.refl _).drew.trans hg)
                have hB14 := hB14.gr ((Gr.refl _).drew.trans hg)
                have hB15 := hB15.gr ((Gr.refl _).drew.trans hg)
                have hB16 := hB16.gr ((Gr.refl _).drew.trans hg)
                have f8 := hd 8 (by decide) _ rfl
                have f5 := hd 5 (by decide) _ rfl
                have e8 : σ 8 = _ := f8.1 hon
                have e5 : σ 5 = _ := f5.1 trivial
                have hgd : σ 5 = .bool false := hon
                have hgb := (f5.1 trivial : σ 5 = _).symm.trans hgd
                simp only [Value.bool.injEq] at hgb
                try simp only [decide_eq_true_eq, decide_eq_false_iff_not, Bool.or_eq_true, Bool.and_eq_true, Bool.or_eq_false_iff, Bool.and_eq_false_iff, Bool.not_eq_true', Bool.not_eq_false', Int.not_lt, Int.not_le, ne_eq, Decidable.not_not] at hgb
                exact OpOK.sub (r := [(123, _), (5, _), (7, _), (9, _), (11, _), (12, _), (13, _), (14, _), (15, _), (16, _)]) ⟨congrArg some e8, rfl, rfl, rfl, rfl, rfl, rfl, rfl, rfl, rfl, trivial⟩ (by
                  exact OpOK.eq (r_load sc23 rfl (hB14.cell rfl)))
                ), (fun _ _ _ _ _ _ h => h), (FreeR.no _), ?_⟩
            refine ⟨_, true, (fun σ ι w1 hg hd hon => by
                have hN := hN.ofGr ((Gr.refl _).drew.trans hg)
                have hB5 := hB5.gr ((Gr.refl _).drew.trans hg)
                have hB13 := hB13.gr ((Gr.refl _).drew.trans hg)
                have hB14 := hB14.gr ((Gr.refl _).drew.trans hg)
                have hB15 := hB15.gr ((Gr.refl _).drew.trans hg)
                have hB16 := hB16.gr ((Gr.refl _).drew.trans hg)
                have f7 := hd 7 (by decide) _ rfl
                have f9 := hd 9 (by decide) _ rfl
                have f5 := hd 5 (by decide) _ rfl
                have e7 : σ 7 = _ := f7.1 hon
                have e9 : σ 9 = _ := f9.1 hon
                have e5 : σ 5 = _ := f5.1 trivial
                have hgd : σ 5 = .bool false := hon
                have hgb := (f5.1 trivial : σ 5 = _).symm.trans hgd
                simp only [Value.bool.injEq] at hgb
                try simp only [decide_eq_true_eq, decide_eq_false_iff_not, Bool.or_eq_true, Bool.and_eq_true, Bool.or_eq_false_iff, Bool.and_eq_false_iff, Bool.not_eq_true', Bool.not_eq_false', Int.not_lt, Int.not_le, ne_eq, Decidable.not_not] at hgb
                skip
                exact CallOK.sub (r := [(122, _), (124, _), (5, _), (7, _), (9, _), (11, _), (12, _), (13, _), (14, _), (15, _), (16, _)]) ⟨congrArg some e7, congrArg some e9, rfl, rfl, rfl, rfl, rfl, rfl, rfl, rfl, rfl, trivial⟩ (by
                  exact CallOK.V (enters_of rfl rfl hb16) (rrecords' hN.sat hE3a hE4a rfl rfl))
                ), (fun _ _ _ _ _ _ h => h), (fun _ _ _ _ _ _ h => h), ?_⟩
            refine ⟨_, false, (fun σ ι w1 hg hd hon => by
                have f10 := hd 10 (by decide) _ rfl
                have f5 := hd 5 (by decide) _ rfl
                have e10 : σ 10 = _ := f10.1 hon
                have e5 : σ 5 = _ := f5.1 trivial
                have hgd : σ 5 = .bool false := hon
                have hgb := (f5.1 trivial : σ 5 = _).symm.trans hgd
                simp only [Value.bool.injEq] at hgb
                try simp only [decide_eq_true_eq, decide_eq_false_iff_not, Bool.or_eq_true, Bool.and_eq_true, Bool.or_eq_false_iff, Bool.and_eq_false_iff, Bool.not_eq_true', Bool.not_eq_false', Int.not_lt, Int.not_le, ne_eq, Decidable.not_not] at hgb
                exact OpOK.sub (r := [(125, _), (5, _), (7, _), (9, _), (11, _), (12, _), (13, _), (14, _), (15, _), (16, _)]) ⟨congrArg some e10, rfl, rfl, rfl, rfl, rfl, rfl, rfl, rfl, rfl, trivial⟩ (by
                  exact OpOK.eq (r_not rfl))
                ), (fun _ _ _ _ _ _ h => h), (FreeR.no _), ?_⟩
            refine ⟨_, false, (fun σ ι w1 hg hd hon => by
                have f5 := hd 5 (by decide) _ rfl
                have f11 := hd 11 (by decide) _ rfl
                have e5 : σ 5 = _ := f5.1 trivial
                have ec : σ 5 = _ := f5.1 trivial
                exact OpOK.id (by refine OpOK.or (dc := 120) (dy := 126) (kc := σ 5) (ky := σ 11) ?_ ?_ ec (fun hb => f11.1 (by show σ 5 = _; rw [ec]; exact congrArg Value.bool hb)) <;> rfl)
                ), (fun _ _ _ _ _ _ h => h), (FreeR.no _), ?_⟩
            refine ⟨_, false, (fun σ ι w1 hg hd hon => by
                have f12 := hd 12 (by decide) _ rfl
                have e12 : σ 12 = _ := f12.1 trivial
                exact OpOK.sub (r := [(127, _), (5, _), (7, _), (9, _), (11, _), (12, _), (13, _), (14, _), (15, _), (16, _)]) ⟨congrArg some e12, rfl, rfl, rfl, rfl, rfl, rfl, rfl, rfl, rfl, trivial⟩ (by
                  exact OpOK.eq (r_move rfl))
                ), (fun _ _ _ _ _ _ h => h), (FreeR.no _), ?_⟩
            refine ⟨_, false, (fun σ ι w1 hg hd hon => by
                have f13 := hd 13 (by decide) _ rfl
                have e13 : σ 13 = _ := f13.1 trivial
                have hgd : σ 13 = .bool false := hon
                have hgb := (f13.1 trivial : σ 13 = _).symm.trans hgd
                simp only [Value.bool.injEq] at hgb
                try simp only [decide_eq_true_eq, decide_eq_false_iff_not, Bool.or_eq_true, Bool.and_eq_true, Bool.or_eq_false_iff, Bool.and_eq_false_iff, Bool.not_eq_true', Bool.not_eq_false', Int.not_lt, Int.not_le, ne_eq, Decidable.not_not] at hgb
                exact OpOK.sub (r := [(5, _), (7, _), (9, _), (11, _), (12, _), (13, _), (14, _), (15, _), (16, _)]) ⟨rfl, rfl, rfl, rfl, rfl, rfl, rfl, rfl, rfl, trivial⟩ (by
                  exact OpOK.eq (r_fld fld34_1 rfl))
                ), (fun _ _ _ _ _ _ h => h), (FreeR.no _), ?_⟩
            refine ⟨_, false, (fun σ ι w1 hg hd hon => by
                have hN := hN.ofGr ((Gr.refl _).drew.trans hg)
                have hB5 := hB5.gr ((Gr.refl _).drew.trans hg)
                have hB13 := hB13.gr ((Gr.refl _).drew.trans hg)
                have hB14 := hB14.gr ((Gr.refl _).drew.trans hg)
                have hB15 := hB15.gr ((Gr.refl _).drew.trans hg)
                have hB16 := hB16.gr ((Gr.refl _).drew.trans hg)
                have f14 := hd 14 (by decide) _ rfl
                have f13 := hd 13 (by decide) _ rfl
                have e14 : σ 14 = _ := f14.1 hon
                have e13 : σ 13 = _ := f13.1 trivial
                have hgd : σ 13 = .bool false := hon
                have hgb := (f13.1 trivial : σ 13 = _).symm.trans hgd
                simp only [Value.bool.injEq] at hgb
                try simp only [decide_eq_true_eq, decide_eq_false_iff_not, Bool.or_eq_true, Bool.and_eq_true, Bool.or_eq_false_iff, Bool.and_eq_false_iff, Bool.not_eq_true', Bool.not_eq_false', Int.not_lt, Int.not_le, ne_eq, Decidable.not_not] at hgb
                exact OpOK.sub (r := [(129, _), (5, _), (7, _), (9, _), (11, _), (12, _), (13, _), (14, _), (15, _), (16, _)]) ⟨congrArg some e14, rfl, rfl, rfl, rfl, rfl, rfl, rfl, rfl, rfl, trivial⟩ (by
                  exact OpOK.eq (r_load sc22 rfl (hB13.cell rfl)))
                ), (fun _ _ _ _ _ _ h => h), (FreeR.no _), ?_⟩
            refine ⟨_, false, (fun σ ι w1 hg hd hon => by
                have f13 := hd 13 (by decide) _ rfl
                have e13 : σ 13 = _ := f13.1 trivial
                have hgd : σ 13 = .bool false := hon
                have hgb := (f13.1 trivial : σ 13 = _).symm.trans hgd
                simp only [Value.bool.injEq] at hgb
                try simp only [decide_eq_true_eq, decide_eq_false_iff_not, Bool.or_eq_true, Bool.and_eq_true, Bool.or_eq_false_iff, Bool.and_eq_false_iff, Bool.not_eq_true', Bool.not_eq_false', Int.not_lt, Int.not_le, ne_eq, Decidable.not_not] at hgb
                exact OpOK.sub (r := [(5, _), (7, _), (9, _), (11, _), (12, _), (13, _), (14, _), (15, _), (16, _)]) ⟨rfl, rfl, rfl, rfl, rfl, rfl, rfl, rfl, rfl, trivial⟩ (by
                  exact OpOK.eq (r_fld fld34_1 rfl))
                ), (fun _ _ _ _ _ _ h => h), (FreeR.no _), ?_⟩
            refine ⟨_, false, (fun σ ι w1 hg hd hon => by
                have hN := hN.ofGr ((Gr.refl _).drew.trans hg)
                have hB5 := hB5.gr ((Gr.refl _).drew.trans hg)
                have hB13 := hB13.gr ((Gr.refl _).drew.trans hg)
                have hB14 := hB14.gr ((Gr.refl _).drew.trans hg)
                have hB15 := hB15.gr ((Gr.refl _).drew.trans hg)
                have hB16 := hB16.gr ((Gr.refl _).drew.trans hg)
                have f16 := hd 16 (by decide) _ rfl
                have f13 := hd 13 (by decide) _ rfl
                have e16 : σ 16 = _ := f16.1 hon
                have e13 : σ 13 = _ := f13.1 trivial
                have hgd : σ 13 = .bool false := hon
                have hgb := (f13.1 trivial : σ 13 = _).symm.trans hgd
                simp only [Value.bool.injEq] at hgb
                try simp only [decide_eq_true_eq, decide_eq_false_iff_not, Bool.or_eq_true, Bool.and_eq_true, Bool.or_eq_false_iff, Bool.and_eq_false_iff, Bool.not_eq_true', Bool.not_eq_false', Int.not_lt, Int.not_le, ne_eq, Decidable.not_not] at hgb
                exact OpOK.sub (r := [(131, _), (5, _), (7, _), (9, _), (11, _), (12, _), (13, _), (14, _), (15, _), (16, _)]) ⟨congrArg some e16, rfl, rfl, rfl, rfl, rfl, rfl, rfl, rfl, rfl, trivial⟩ (by
                  exact OpOK.eq (r_load sc22 rfl (hB14.cell rfl)))
                ), (fun _ _ _ _ _ _ h => h), (FreeR.no _), ?_⟩
            refine ⟨_, true, (fun σ ι w1 hg hd hon => by
                have hN := hN.ofGr ((Gr.refl _).drew.trans hg)
                have hB5 := hB5.gr ((Gr.refl _).drew.trans hg)
                have hB13 := hB13.gr ((Gr.refl _).drew.trans hg)
                have hB14 := hB14.gr ((Gr.refl _).drew.trans hg)
                have hB15 := hB15.gr ((Gr.refl _).drew.trans hg)
                have hB16 := hB16.gr ((Gr.refl _).drew.trans hg)
                have f15 := hd 15 (by decide) _ rfl
                have f17 := hd 17 (by decide) _ rfl
                have f13 := hd 13 (by decide) _ rfl
                have e15 : σ 15 = _ := f15.1 hon
                have e17 : σ 17 = _ := f17.1 hon
                have e13 : σ 13 = _ := f13.1 trivial
                have hgd : σ 13 = .bool false := hon
                have hgb := (f13.1 trivial : σ 13 = _).symm.trans hgd
                simp only [Value.bool.injEq] at hgb
                try simp only [decide_eq_true_eq, decide_eq_false_iff_not, Bool.or_eq_true, Bool.and_eq_true, Bool.or_eq_false_iff, Bool.and_eq_false_iff, Bool.not_eq_true', Bool.not_eq_false', Int.not_lt, Int.not_le, ne_eq, Decidable.not_not] at hgb
                skip
                exact CallOK.sub (r := [(130, _), (132, _), (5, _), (7, _), (9, _), (11, _), (12, _), (13, _), (14, _), (15, _), (16, _)]) ⟨congrArg some e15, congrArg some e17, rfl, rfl, rfl, rfl, rfl, rfl, rfl, rfl, rfl, trivial⟩ (by
                  exact CallOK.V (enters_of rfl rfl hb17) (rsame8' hN.sat hE3b hE4b (by simp) (by simp)))
                ), (fun _ _ _ _ _ _ h => h), (fun _ _ _ _ _ _ h => h), ?_⟩
            refine ⟨_, false, (fun σ ι w1 hg hd hon => by
                have f18 := hd 18 (by decide) _ rfl
                have f13 := hd 13 (by decide) _ rfl
                have e18 : σ 18 = _ := f18.1 hon
                have e13 : σ 13 = _ := f13.1 trivial
                have hgd : σ 13 = .bool false := hon
                have hgb := (f13.1 trivial : σ 13 = _).symm.trans hgd
                simp only [Value.bool.injEq] at hgb
                try simp only [decide_eq_true_eq, decide_eq_false_iff_not, Bool.or_eq_true, Bool.and_eq_true, Bool.or_eq_false_iff, Bool.and_eq_false_iff, Bool.not_eq_true', Bool.not_eq_false', Int.not_lt, Int.not_le, ne_eq, Decidable.not_not] at hgb
                exact OpOK.sub (r := [(133, _), (5, _), (7, _), (9, _), (11, _), (12, _), (13, _), (14, _), (15, _), (16, _)]) ⟨congrArg some e18, rfl, rfl, rfl, rfl, rfl, rfl, rfl, rfl, rfl, trivial⟩ (by
                  exact OpOK.eq (r_not rfl))
                ), (fun _ _ _ _ _ _ h => h), (FreeR.no _), ?_⟩
            refine ⟨_, false, (fun σ ι w1 hg hd hon => by
                have f13 := hd 13 (by decide) _ rfl
                have f19 := hd 19 (by decide) _ rfl
                have e13 : σ 13 = _ := f13.1 trivial
                have ec : σ 13 = _ := f13.1 trivial
                exact OpOK.id (by refine OpOK.or (dc := 128) (dy := 134) (kc := σ 13) (ky := σ 19) ?_ ?_ ec (fun hb => f19.1 (by show σ 13 = _; rw [ec]; exact congrArg Value.bool hb)) <;> rfl)
                ), (fun _ _ _ _ _ _ h => h), (FreeR.no _), ?_⟩
            refine ⟨_, false, (fun σ ι w1 hg hd hon => by
                have f20 := hd 20 (by decide) _ rfl
                have e20 : σ 20 = _ := f20.1 trivial
                exact OpOK.sub (r := [(135, _), (5, _), (7, _), (9, _), (11, _), (12, _), (13, _), (14, _), (15, _), (16, _)]) ⟨congrArg some e20, rfl, rfl, rfl, rfl, rfl, rfl, rfl, rfl, rfl, trivial⟩ (by
                  exact OpOK.eq (r_move rfl))
                ), (fun _ _ _ _ _ _ h => h), (FreeR.no _), ?_⟩
            refine ⟨_, false, (fun σ ι w1 hg hd hon => by
                have f21 := hd 21 (by decide) _ rfl
                have e21 : σ 21 = _ := f21.1 trivial
                have hgd : σ 21 = .bool false := hon
                have hgb := (f21.1 trivial : σ 21 = _).symm.trans hgd
                simp only [Value.bool.injEq] at hgb
                try simp only [decide_eq_true_eq, decide_eq_false_iff_not, Bool.or_eq_true, Bool.and_eq_true, Bool.or_eq_false_iff, Bool.and_eq_false_iff, Bool.not_eq_true', Bool.not_eq_false', Int.not_lt, Int.not_le, ne_eq, Decidable.not_not] at hgb
                exact OpOK.sub (r := [(5, _), (7, _), (9, _), (11, _), (12, _), (13, _), (14, _), (15, _), (16, _)]) ⟨rfl, rfl, rfl, rfl, rfl, rfl, rfl, rfl, rfl, trivial⟩ (by
                  exact OpOK.eq (r_fld fld37_1 rfl))
                ), (fun _ _ _ _ _ _ h => h), (FreeR.no _), ?_⟩
            refine ⟨_, false, (fun σ ι w1 hg hd hon => by
                have hN := hN.ofGr ((Gr.refl _).drew.trans hg)
                have hB5 := hB5.gr ((Gr.refl _).drew.trans hg)
                have hB13 := hB13.gr ((Gr.refl _).drew.trans hg)
                have hB14 := hB14.gr ((Gr.refl _).drew.trans hg)
                have hB15 := hB15.gr ((Gr.refl _).drew.trans hg)
                have hB16 := hB16.gr ((Gr.refl _).drew.trans hg)
                have f22 := hd 22 (by decide) _ rfl
                have f21 := hd 21 (by decide) _ rfl
                have e22 : σ 22 = _ := f22.1 hon
                have e21 : σ 21 = _ := f21.1 trivial
                have hgd : σ 21 = .bool false := hon
                have hgb := (f21.1 trivial : σ 21 = _).symm.trans hgd
                simp only [Value.bool.injEq] at hgb
                try simp only [decide_eq_true_eq, decide_eq_false_iff_not, Bool.or_eq_true, Bool.and_eq_true, Bool.or_eq_false_iff, Bool.and_eq_false_iff, Bool.not_eq_true', Bool.not_eq_false', Int.not_lt, Int.not_le, ne_eq, Decidable.not_not] at hgb
                exact OpOK.sub (r := [(137, _), (5, _), (7, _), (9, _), (11, _), (12, _), (13, _), (14, _), (15, _), (16, _)]) ⟨congrArg some e22, rfl, rfl, rfl, rfl, rfl, rfl, rfl, rfl, rfl, trivial⟩ (by
                  exact OpOK.eq (r_load sc31 rfl (hB15.cell rfl)))
                ), (fun _ _ _ _ _ _ h => h), (FreeR.no _), ?_⟩
            refine ⟨_, false, (fun σ ι w1 hg hd hon => by
                have f21 := hd 21 (by decide) _ rfl
                have e21 : σ 21 = _ := f21.1 trivial
                have hgd : σ 21 = .bool false := hon
                have hgb := (f21.1 trivial : σ 21 = _).symm.trans hgd
                simp only [Value.bool.injEq] at hgb
                try simp only [decide_eq_true_eq, decide_eq_false_iff_not, Bool.or_eq_true, Bool.and_eq_true, Bool.or_eq_false_iff, Bool.and_eq_false_iff, Bool.not_eq_true', Bool.not_eq_false', Int.not_lt, Int.not_le, ne_eq, Decidable.not_not] at hgb
                exact OpOK.sub (r := [(5, _), (7, _), (9, _), (11, _), (12, _), (13, _), (14, _), (15, _), (16, _)]) ⟨rfl, rfl, rfl, rfl, rfl, rfl, rfl, rfl, rfl, trivial⟩ (by
                  exact OpOK.eq (r_fld fld37_1 rfl))
                ), (fun _ _ _ _ _ _ h => h), (FreeR.no _), ?_⟩
            refine ⟨_, false, (fun σ ι w1 hg hd hon => by
                have hN := hN.ofGr ((Gr.refl _).drew.trans hg)
                have hB5 := hB5.gr ((Gr.refl _).drew.trans hg)
                have hB13 := hB13.gr ((Gr.refl _).drew.trans hg)
                have hB14 := hB14.gr ((Gr.refl _).drew.trans hg)
                have hB15 := hB15.gr ((Gr.refl _).drew.trans hg)
                have hB16 := hB16.gr ((Gr.refl _).drew.trans hg)
                have f24 := hd 24 (by decide) _ rfl
                have f21 := hd 21 (by decide) _ rfl
                have e24 : σ 24 = _ := f24.1 hon
                have e21 : σ 21 = _ := f21.1 trivial
                have hgd : σ 21 = .bool false := hon
                have hgb := (f21.1 trivial : σ 21 = _).symm.trans hgd
                simp only [Value.bool.injEq] at hgb
                try simp only [decide_eq_true_eq, decide_eq_false_iff_not, Bool.or_eq_true, Bool.and_eq_true, Bool.or_eq_false_iff, Bool.and_eq_false_iff, Bool.not_eq_true', Bool.not_eq_false', Int.not_lt, Int.not_le, ne_eq, Decidable.not_not] at hgb
                exact OpOK.sub (r := [(139, _), (5, _), (7, _), (9, _), (11, _), (12, _), (13, _), (14, _), (15, _), (16, _)]) ⟨congrArg some e24, rfl, rfl, rfl, rfl, rfl, rfl, rfl, rfl, rfl, trivial⟩ (by
                  exact OpOK.eq (r_load sc31 rfl (hB16.cell rfl)))
                ), (fun _ _ _ _ _ _ h => h), (FreeR.no _), ?_⟩
            refine ⟨_, false, (fun σ ι w1 hg hd hon => by
                have f23 := hd 23 (by decide) _ rfl
                have f25 := hd 25 (by decide) _ rfl
                have f21 := hd 21 (by decide) _ rfl
                have e23 : σ 23 = _ := f23.1 hon
                have e25 : σ 25 = _ := f25.1 hon
                have e21 : σ 21 = _ := f21.1 trivial
                have hgd : σ 21 = .bool false := hon
                have hgb := (f21.1 trivial : σ 21 = _).symm.trans hgd
                simp only [Value.bool.injEq] at hgb
                try simp only [decide_eq_true_eq, decide_eq_false_iff_not, Bool.or_eq_true, Bool.and_eq_true, Bool.or_eq_false_iff, Bool.and_eq_false_iff, Bool.not_eq_true', Bool.not_eq_false', Int.not_lt, Int.not_le, ne_eq, Decidable.not_not] at hgb
                exact OpOK.sub (r := [(138, _), (140, _), (5, _), (7, _), (9, _), (11, _), (12, _), (13, _), (14, _), (15, _), (16, _)]) ⟨congrArg some e23, congrArg some e25, rfl, rfl, rfl, rfl, rfl, rfl, rfl, rfl, rfl, trivial⟩ (by
                  exact OpOK.eq (r_neq rfl rfl))
                ), (fun _ _ _ _ _ _ h => h), (FreeR.no _), ?_⟩
            refine ⟨_, false, (fun σ ι w1 hg hd hon => by
                have f21 := hd 21 (by decide) _ rfl
                have f26 := hd 26 (by decide) _ rfl
                have e21 : σ 21 = _ := f21.1 trivial
                have ec : σ 21 = _ := f21.1 trivial
                exact OpOK.id (by refine OpOK.or (dc := 136) (dy := 141) (kc := σ 21) (ky := σ 26) ?_ ?_ ec (fun hb => f26.1 (by show σ 21 = _; rw [ec]; exact congrArg Value.bool hb)) <;> rfl)
                ), (fun _ _ _ _ _ _ h => h), (FreeR.no _), ?_⟩
            refine ⟨_, false, (fun σ ι w1 hg hd hon => by
                have f27 := hd 27 (by decide) _ rfl
                have e27 : σ 27 = _ := f27.1 trivial
                exact OpOK.sub (r := [(142, _), (5, _), (7, _), (9, _), (11, _), (12, _), (13, _), (14, _), (15, _), (16, _)]) ⟨congrArg some e27, rfl, rfl, rfl, rfl, rfl, rfl, rfl, rfl, rfl, trivial⟩ (by
                  exact OpOK.eq (r_move rfl))
                ), (fun _ _ _ _ _ _ h => h), (FreeR.no _), ?_⟩
            refine ⟨_, false, (fun σ ι w1 hg hd hon => by
                have f28 := hd 28 (by decide) _ rfl
                have e28 : σ 28 = _ := f28.1 trivial
                have hgd : σ 28 = .bool false := hon
                have hgb := (f28.1 trivial : σ 28 = _).symm.trans hgd
                simp only [Value.bool.injEq] at hgb
                try simp only [decide_eq_true_eq, decide_eq_false_iff_not, Bool.or_eq_true, Bool.and_eq_true, Bool.or_eq_false_iff, Bool.and_eq_false_iff, Bool.not_eq_true', Bool.not_eq_false', Int.not_lt, Int.not_le, ne_eq, Decidable.not_not] at hgb
                exact OpOK.sub (r := [(5, _), (7, _), (9, _), (11, _), (12, _), (13, _), (14, _), (15, _), (16, _)]) ⟨rfl, rfl, rfl, rfl, rfl, rfl, rfl, rfl, rfl, trivial⟩ (by
                  exact OpOK.eq (r_fld fld37_0 rfl))
                ), (fun _ _ _ _ _ _ h => h), (FreeR.no _), ?_⟩
            refine ⟨_, false, (fun σ ι w1 hg hd hon => by
                have hN := hN.ofGr ((Gr.refl _).drew.trans hg)
                have hB5 := hB5.gr ((Gr.refl _).drew.trans hg)
                have hB13 := hB13.gr ((Gr.refl _).drew.trans hg)
                have hB14 := hB14.gr ((Gr.refl _).drew.trans hg)
                have hB15 := hB15.gr ((Gr.refl _).drew.trans hg)
                have hB16 := hB16.gr ((Gr.refl _).drew.trans hg)
                have f29 := hd 29 (by decide) _ rfl
                have f28 := hd 28 (by decide) _ rfl
                have e29 : σ 29 = _ := f29.1 hon
                have e28 : σ 28 = _ := f28.1 trivial
                have hgd : σ 28 = .bool false := hon
                have hgb := (f28.1 trivial : σ 28 = _).symm.trans hgd
                simp only [Value.bool.injEq] at hgb
                try simp only [decide_eq_true_eq, decide_eq_false_iff_not, Bool.or_eq_true, Bool.and_eq_true, Bool.or_eq_false_iff, Bool.and_eq_false_iff, Bool.not_eq_true', Bool.not_eq_false', Int.not_lt, Int.not_le, ne_eq, Decidable.not_not] at hgb
                exact OpOK.sub (r := [(144, _), (5, _), (7, _), (9, _), (11, _), (12, _), (13, _), (14, _), (15, _), (16, _)]) ⟨congrArg some e29, rfl, rfl, rfl, rfl, rfl, rfl, rfl, rfl, rfl, trivial⟩ (by
                  exact OpOK.eq (r_load sc22 rfl (hB15.cell rfl)))
                ), (fun _ _ _ _ _ _ h => h), (FreeR.no _), ?_⟩
            refine ⟨_, false, (fun σ ι w1 hg hd hon => by
                have f28 := hd 28 (by decide) _ rfl
                have e28 : σ 28 = _ := f28.1 trivial
                have hgd : σ 28 = .bool false := hon
                have hgb := (f28.1 trivial : σ 28 = _).symm.trans hgd
                simp only [Value.bool.injEq] at hgb
                try simp only [decide_eq_true_eq, decide_eq_false_iff_not, Bool.or_eq_true, Bool.and_eq_true, Bool.or_eq_false_iff, Bool.and_eq_false_iff, Bool.not_eq_true', Bool.not_eq_false', Int.not_lt, Int.not_le, ne_eq, Decidable.not_not] at hgb
                exact OpOK.sub (r := [(5, _), (7, _), (9, _), (11, _), (12, _), (13, _), (14, _), (15, _), (16, _)]) ⟨rfl, rfl, rfl, rfl, rfl, rfl, rfl, rfl, rfl, trivial⟩ (by
                  exact OpOK.eq (r_fld fld37_0 rfl))
                ), (fun _ _ _ _ _ _ h => h), (FreeR.no _), ?_⟩
            refine ⟨_, false, (fun σ ι w1 hg hd hon => by
                have hN := hN.ofGr ((Gr.refl _).drew.trans hg)
                have hB5 := hB5.gr ((Gr.refl _).drew.trans hg)
                have hB13 := hB13.gr ((Gr.refl _).drew.trans hg)
                have hB14 := hB14.gr ((Gr.refl _).drew.trans hg)
                have hB15 := hB15.gr ((Gr.refl _).drew.trans hg)
                have hB16 := hB16.gr ((Gr.refl _).drew.trans hg)
                have f31 := hd 31 (by decide) _ rfl
                have f28 := hd 28 (by decide) _ rfl
                have e31 : σ 31 = _ := f31.1 hon
                have e28 : σ 28 = _ := f28.1 trivial
                have hgd : σ 28 = .bool false := hon
                have hgb := (f28.1 trivial : σ 28 = _).symm.trans hgd
                simp only [Value.bool.injEq] at hgb
                try simp only [decide_eq_true_eq, decide_eq_false_iff_not, Bool.or_eq_true, Bool.and_eq_true, Bool.or_eq_false_iff, Bool.and_eq_false_iff, Bool.not_eq_true', Bool.not_eq_false', Int.not_lt, Int.not_le, ne_eq, Decidable.not_not] at hgb
                exact OpOK.sub (r := [(146, _), (5, _), (7, _), (9, _), (11, _), (12, _), (13, _), (14, _), (15, _), (16, _)]) ⟨congrArg some e31, rfl, rfl, rfl, rfl, rfl, rfl, rfl, rfl, rfl, trivial⟩ (by
                  exact OpOK.eq (r_load sc22 rfl (hB16.cell rfl)))
                ), (fun _ _ _ _ _ _ h => h), (FreeR.no _), ?_⟩
            refine ⟨_, true, (fun σ ι w1 hg hd hon => by
                have hN := hN.ofGr ((Gr.refl _).drew.trans hg)
                have hB5 := hB5.gr ((Gr.refl _).drew.trans hg)
                have hB13 := hB13.gr ((Gr.refl _).drew.trans hg)
                have hB14 := hB14.gr ((Gr.refl _).drew.trans hg)
                have hB15 := hB15.gr ((Gr.refl _).drew.trans hg)
                have hB16 := hB16.gr ((Gr.refl _).drew.trans hg)
                have f30 := hd 30 (by decide) _ rfl
                have f32 := hd 32 (by decide) _ rfl
                have f28 := hd 28 (by decide) _ rfl
                have e30 : σ 30 = _ := f30.1 hon
                have e32 : σ 32 = _ := f32.1 hon
                have e28 : σ 28 = _ := f28.1 trivial
                have hgd : σ 28 = .bool false := hon
                have hgb := (f28.1 trivial : σ 28 = _).symm.trans hgd
                simp only [Value.bool.injEq] at hgb
                try simp only [decide_eq_true_eq, decide_eq_false_iff_not, Bool.or_eq_true, Bool.and_eq_true, Bool.or_eq_false_iff, Bool.and_eq_false_iff, Bool.not_eq_true', Bool.not_eq_false', Int.not_lt, Int.not_le, ne_eq, Decidable.not_not] at hgb
                skip
                exact CallOK.sub (r := [(145, _), (147, _), (5, _), (7, _), (9, _), (11, _), (12, _), (13, _), (14, _), (15, _), (16, _)]) ⟨congrArg some e30, congrArg some e32, rfl, rfl, rfl, rfl, rfl, rfl, rfl, rfl, rfl, trivial⟩ (by
                  exact CallOK.V (enters_of rfl rfl hb17) (rsame8' hN.sat hE5a hE6a rfl rfl))
                ), (fun _ _ _ _ _ _ h => h), (fun _ _ _ _ _ _ h => h), ?_⟩
            refine ⟨_, false, (fun σ ι w1 hg hd hon => by
                have f33 := hd 33 (by decide) _ rfl
                have f28 := hd 28 (by decide) _ rfl
                have e33 : σ 33 = _ := f33.1 hon
                have e28 : σ 28 = _ := f28.1 trivial
                have hgd : σ 28 = .bool false := hon
                have hgb := (f28.1 trivial : σ 28 = _).symm.trans hgd
                simp only [Value.bool.injEq] at hgb
                try simp only [decide_eq_true_eq, decide_eq_false_iff_not, Bool.or_eq_true, Bool.and_eq_true, Bool.or_eq_false_iff, Bool.and_eq_false_iff, Bool.not_eq_true', Bool.not_eq_false', Int.not_lt, Int.not_le, ne_eq, Decidable.not_not] at hgb
                exact OpOK.sub (r := [(148, _), (5, _), (7, _), (9, _), (11, _), (12, _), (13, _), (14, _), (15, _), (16, _)]) ⟨congrArg some e33, rfl, rfl, rfl, rfl, rfl, rfl, rfl, rfl, rfl, trivial⟩ (by
                  exact OpOK.eq (r_not rfl))
                ), (fun _ _ _ _ _ _ h => h), (FreeR.no _), ?_⟩
            refine ⟨_, false, (fun σ ι w1 hg hd hon => by
                have f28 := hd 28 (by decide) _ rfl
                have f34 := hd 34 (by decide) _ rfl
                have e28 : σ 28 = _ := f28.1 trivial
                have ec : σ 28 = _ := f28.1 trivial
                exact OpOK.id (by refine OpOK.or (dc := 143) (dy := 149) (kc := σ 28) (ky := σ 34) ?_ ?_ ec (fun hb => f34.1 (by show σ 28 = _; rw [ec]; exact congrArg Value.bool hb)) <;> rfl)
                ), (fun _ _ _ _ _ _ h => h), (FreeR.no _), ?_⟩
            refine ⟨_, false, (fun σ ι w1 hg hd hon => by
                have f35 := hd 35 (by decide) _ rfl
                have e35 : σ 35 = _ := f35.1 trivial
                exact OpOK.sub (r := [(150, _), (5, _), (7, _), (9, _), (11, _), (12, _), (13, _), (14, _), (15, _), (16, _)]) ⟨congrArg some e35, rfl, rfl, rfl, rfl, rfl, rfl, rfl, rfl, rfl, trivial⟩ (by
                  exact OpOK.eq (r_move rfl))
                ), (fun _ _ _ _ _ _ h => h), (FreeR.no _), ?_⟩
            refine ⟨_, false, (fun σ ι w1 hg hd hon => by
                have f36 := hd 36 (by decide) _ rfl
                have e36 : σ 36 = _ := f36.1 trivial
                have hgd : σ 36 = .bool false := hon
                have hgb := (f36.1 trivial : σ 36 = _).symm.trans hgd
                simp only [Value.bool.injEq] at hgb
                try simp only [decide_eq_true_eq, decide_eq_false_iff_not, Bool.or_eq_true, Bool.and_eq_true, Bool.or_eq_false_iff, Bool.and_eq_false_iff, Bool.not_eq_true', Bool.not_eq_false', Int.not_lt, Int.not_le, ne_eq, Decidable.not_not] at hgb
                exact OpOK.sub (r := [(5, _), (7, _), (9, _), (11, _), (12, _), (13, _), (14, _), (15, _), (16, _)]) ⟨rfl, rfl, rfl, rfl, rfl, rfl, rfl, rfl, rfl, trivial⟩ (by
                  exact OpOK.eq (r_move rfl))
                ), (fun _ _ _ _ _ _ h => h), (FreeR.no _), ?_⟩
            refine ⟨_, false, (fun σ ι w1 hg hd hon => by
                have f36 := hd 36 (by decide) _ rfl
                have e36 : σ 36 = _ := f36.1 trivial
                have hgd : σ 36 = .bool false := hon
                have hgb := (f36.1 trivial : σ 36 = _).symm.trans hgd
                simp only [Value.bool.injEq] at hgb
                try simp only [decide_eq_true_eq, decide_eq_false_iff_not, Bool.or_eq_true, Bool.and_eq_true, Bool.or_eq_false_iff, Bool.and_eq_false_iff, Bool.not_eq_true', Bool.not_eq_false', Int.not_lt, Int.not_le, ne_eq, Decidable.not_not] at hgb
                exact OpOK.sub (r := [(5, _), (7, _), (9, _), (11, _), (12, _), (13, _), (14, _), (15, _), (16, _)]) ⟨rfl, rfl, rfl, rfl, rfl, rfl, rfl, rfl, rfl, trivial⟩ (by
                  exact OpOK.eq (r_move rfl))
                ), (fun _ _ _ _ _ _ h => h), (FreeR.no _), ?_⟩
            refine ⟨_, false, (fun σ ι w1 hg hd hon => by
                have f37 := hd 37 (by decide) _ rfl
                have f38 := hd 38 (by decide) _ rfl
                have f36 := hd 36 (by decide) _ rfl
                have e37 : σ 37 = _ := f37.1 hon
                have e38 : σ 38 = _ := f38.1 hon
                have e36 : σ 36 = _ := f36.1 trivial
                have hgd : σ 36 = .bool false := hon
                have hgb := (f36.1 trivial : σ 36 = _).symm.trans hgd
                simp only [Value.bool.injEq] at hgb
                try simp only [decide_eq_true_eq, decide_eq_false_iff_not, Bool.or_eq_true, Bool.and_eq_true, Bool.or_eq_false_iff, Bool.and_eq_false_iff, Bool.not_eq_true', Bool.not_eq_false', Int.not_lt, Int.not_le, ne_eq, Decidable.not_not] at hgb
                exact OpOK.sub (r := [(152, _), (153, _), (5, _), (7, _), (9, _), (11, _), (12, _), (13, _), (14, _), (15, _), (16, _)]) ⟨congrArg some e37, congrArg some e38, rfl, rfl, rfl, rfl, rfl, rfl, rfl, rfl, rfl, trivial⟩ (by
                  exact OpOK.eq (r_idx Try.underlying30 sz22 rfl rfl (i := i) rfl (by omega)))
                ), (fun _ _ _ _ _ _ h => h), (FreeR.no _), ?_⟩
            refine ⟨_, false, (fun σ ι w1 hg hd hon => by
                have hN := hN.ofGr ((Gr.refl _).drew.trans hg)
                have hB5 := hB5.gr ((Gr.refl _).drew.trans hg)
                have hB13 := hB13.gr ((Gr.refl _).drew.trans hg)
                have hB14 := hB14.gr ((Gr.refl _).drew.trans hg)
                have hB15 := hB15.gr ((Gr.refl _).drew.trans hg)
                have hB16 := hB16.gr ((Gr.refl _).drew.trans hg)
                have f39 := hd 39 (by decide) _ rfl
                have f36 := hd 36 (by decide) _ rfl
                have e39 : σ 39 = _ := f39.1 hon
                have e36 : σ 36 = _ := f36.1 trivial
                have hgd : σ 36 = .bool false := hon
                have hgb := (f36.1 trivial : σ 36 = _).symm.trans hgd
                simp only [Value.bool.injEq] at hgb
                try simp only [decide_eq_true_eq, decide_eq_false_iff_not, Bool.or_eq_true, Bool.and_eq_true, Bool.or_eq_false_iff, Bool.and_eq_false_iff, Bool.not_eq_true', Bool.not_eq_false', Int.not_lt, Int.not_le, ne_eq, Decidable.not_not] at hgb
                exact OpOK.sub (r := [(154, _), (5, _), (7, _), (9, _), (11, _), (12, _), (13, _), (14, _), (15, _), (16, _)]) ⟨congrArg some e39, rfl, rfl, rfl, rfl, rfl, rfl, rfl, rfl, rfl, trivial⟩ (by
                  exact OpOK.eq (r_load sc22 rfl (hN.sat.cell hcx)))
                ), (fun _ _ _ _ _ _ h => h), (FreeR.no _), ?_⟩
            refine ⟨_, true, (fun σ ι w1 hg hd hon => by
                have hN := hN.ofGr ((Gr.refl _).drew.trans hg)
                have hB5 := hB5.gr ((Gr.refl _).drew.trans hg)
                have hB13 := hB13.gr ((Gr.refl _).drew.trans hg)
                have hB14 := hB14.gr ((Gr.refl _).drew.trans hg)
                have hB15 := hB15.gr ((Gr.refl _).drew.trans hg)
                have hB16 := hB16.gr ((Gr.refl _).drew.trans hg)
                have f40 := hd 40 (by decide) _ rfl
                have f36 := hd 36 (by decide) _ rfl
                have e40 : σ 40 = _ := f40.1 hon
                have e36 : σ 36 = _ := f36.1 trivial
                have hgd : σ 36 = .bool false := hon
                have hgb := (f36.1 trivial : σ 36 = _).symm.trans hgd
                simp only [Value.bool.injEq] at hgb
                try simp only [decide_eq_true_eq, decide_eq_false_iff_not, Bool.or_eq_true, Bool.and_eq_true, Bool.or_eq_false_iff, Bool.and_eq_false_iff, Bool.not_eq_true', Bool.not_eq_false', Int.not_lt, Int.not_le, ne_eq, Decidable.not_not] at hgb
                skip
                exact CallOK.sub (r := [(155, _), (5, _), (7, _), (9, _), (11, _), (12, _), (13, _), (14, _), (15, _), (16, _)]) ⟨congrArg some e40, rfl, rfl, rfl, rfl, rfl, rfl, rfl, rfl, rfl, trivial⟩ (by
                  exact CallOK.V (enters_of rfl rfl hb18) (jwhole' hN.sat hEx rfl hlx (by omega)))
                ), (fun _ _ _ _ _ _ h => h), (fun _ _ _ _ _ _ h => h), ?_⟩
            refine ⟨_, false, (fun σ ι w1 hg hd hon => by
                have f36 := hd 36 (by decide) _ rfl
                have e36 : σ 36 = _ := f36.1 trivial
                have hgd : σ 36 = .bool false := hon
                have hgb := (f36.1 trivial : σ 36 = _).symm.trans hgd
                simp only [Value.bool.injEq] at hgb
                try simp only [decide_eq_true_eq, decide_eq_false_iff_not, Bool.or_eq_true, Bool.and_eq_true, Bool.or_eq_false_iff, Bool.and_eq_false_iff, Bool.not_eq_true', Bool.not_eq_false', Int.not_lt, Int.not_le, ne_eq, Decidable.not_not] at hgb
                exact OpOK.sub (r := [(5, _), (7, _), (9, _), (11, _), (12, _), (13, _), (14, _), (15, _), (16, _)]) ⟨rfl, rfl, rfl, rfl, rfl, rfl, rfl, rfl, rfl, trivial⟩ (by
                  exact OpOK.eq (r_move rfl))
                ), (fun _ _ _ _ _ _ h => h), (FreeR.no _), ?_⟩
            refine ⟨_, false, (fun σ ι w1 hg hd hon => by
                have f36 := hd 36 (by decide) _ rfl
                have e36 : σ 36 = _ := f36.1 trivial
                have hgd : σ 36 = .bool false := hon
                have hgb := (f36.1 trivial : σ 36 = _).symm.trans hgd
                simp only [Value.bool.injEq] at hgb
                try simp only [decide_eq_true_eq, decide_eq_false_iff_not, Bool.or_eq_true, Bool.and_eq_true, Bool.or_eq_false_iff, Bool.and_eq_false_iff, Bool.not_eq_true', Bool.not_eq_false', Int.not_lt, Int.not_le, ne_eq, Decidable.not_not] at hgb
                exact OpOK.sub (r := [(5, _), (7, _), (9, _), (11, _), (12, _), (13, _), (14, _), (15, _), (16, _)]) ⟨rfl, rfl, rfl, rfl, rfl, rfl, rfl, rfl, rfl, trivial⟩ (by
                  exact OpOK.eq (r_move rfl))
                ), (fun _ _ _ _ _ _ h => h), (FreeR.no _), ?_⟩
            refine ⟨_, false, (fun σ ι w1 hg hd hon => by
                have f42 := hd 42 (by decide) _ rfl
                have f43 := hd 43 (by decide) _ rfl
                have f36 := hd 36 (by decide) _ rfl
                have e42 : σ 42 = _ := f42.1 hon
                have e43 : σ 43 = _ := f43.1 hon
                have e36 : σ 36 = _ := f36.1 trivial
                have hgd : σ 36 = .bool false := hon
                have hgb := (f36.1 trivial : σ 36 = _).symm.trans hgd
                simp only [Value.bool.injEq] at hgb
                try simp only [decide_eq_true_eq, decide_eq_false_iff_not, Bool.or_eq_true, Bool.and_eq_true, Bool.or_eq_false_iff, Bool.and_eq_false_iff, Bool.not_eq_true', Bool.not_eq_false', Int.not_lt, Int.not_le, ne_eq, Decidable.not_not] at hgb
                exact OpOK.sub (r := [(157, _), (158, _), (5, _), (7, _), (9, _), (11, _), (12, _), (13, _), (14, _), (15, _), (16, _)]) ⟨congrArg some e42, congrArg some e43, rfl, rfl, rfl, rfl, rfl, rfl, rfl, rfl, rfl, trivial⟩ (by
                  exact OpOK.eq (r_idx Try.underlying30 sz22 rfl rfl (i := i) rfl (by omega)))
                ), (fun _ _ _ _ _ _ h => h), (FreeR.no _), ?_⟩
            refine ⟨_, false, (fun σ ι w1 hg hd hon => by
                have hN := hN.ofGr ((Gr.refl _).drew.trans hg)
                have hB5 := hB5.gr ((Gr.refl _).drew.trans hg)
                have hB13 := hB13.gr ((Gr.refl _).drew.trans hg)
                have hB14 := hB14.gr ((Gr.refl _).drew.trans hg)
                have hB15 := hB15.gr ((Gr.refl _).drew.trans hg)
                have hB16 := hB16.gr ((Gr.refl _).drew.trans hg)
                have f44 := hd 44 (by decide) _ rfl
                have f36 := hd 36 (by decide) _ rfl
                have e44 : σ 44 = _ := f44.1 hon
                have e36 : σ 36 = _ := f36.1 trivial
                have hgd : σ 36 = .bool false := hon
                have hgb := (f36.1 trivial : σ 36 = _).symm.trans hgd
                simp only [Value.bool.injEq] at hgb
                try simp only [decide_eq_true_eq, decide_eq_false_iff_not, Bool.or_eq_true, Bool.and_eq_true, Bool.or_eq_false_iff, Bool.and_eq_false_iff, Bool.not_eq_true', Bool.not_eq_false', Int.not_lt, Int.not_le, ne_eq, Decidable.not_not] at hgb
                exact OpOK.sub (r := [(159, _), (5, _), (7, _), (9, _), (11, _), (12, _), (13, _), (14, _), (15, _), (16, _)]) ⟨congrArg some e44, rfl, rfl, rfl, rfl, rfl, rfl, rfl, rfl, rfl, trivial⟩ (by
                  exact OpOK.eq (r_load sc22 rfl (hN.sat.cell hcx)))
                ), (fun _ _ _ _ _ _ h => h), (FreeR.no _), ?_⟩
            refine ⟨_, true, (fun σ ι w1 hg hd hon => by
                have hN := hN.ofGr ((Gr.refl _).drew.trans hg)
                have hB5 := hB5.gr ((Gr.refl _).drew.trans hg)
                have hB13 := hB13.gr ((Gr.refl _).drew.trans hg)
                have hB14 := hB14.gr ((Gr.refl _).drew.trans hg)
                have hB15 := hB15.gr ((Gr.refl _).drew.trans hg)
                have hB16 := hB16.gr ((Gr.refl _).drew.trans hg)
                have f45 := hd 45 (by decide) _ rfl
                have f36 := hd 36 (by decide) _ rfl
                have e45 : σ 45 = _ := f45.1 hon
                have e36 : σ 36 = _ := f36.1 trivial
                have hgd : σ 36 = .bool false := hon
                have hgb := (f36.1 trivial : σ 36 = _).symm.trans hgd
                simp only [Value.bool.injEq] at hgb
                try simp only [decide_eq_true_eq, decide_eq_false_iff_not, Bool.or_eq_true, Bool.and_eq_true, Bool.or_eq_false_iff, Bool.and_eq_false_iff, Bool.not_eq_true', Bool.not_eq_false', Int.not_lt, Int.not_le, ne_eq, Decidable.not_not] at hgb
                skip
                exact CallOK.sub (r := [(160, _), (5, _), (7, _), (9, _), (11, _), (12, _), (13, _), (14, _), (15, _), (16, _)]) ⟨congrArg some e45, rfl, rfl, rfl, rfl, rfl, rfl, rfl, rfl, rfl, trivial⟩ (by
                  exact CallOK.V (enters_of rfl rfl hb19) (rwhole hN.sat hEx hlx (by omega)))
                ), (fun _ _ _ _ _ _ h => h), (fun _ _ _ _ _ _ h => h), ?_⟩
            refine ⟨_, true, (fun σ ι w1 hg hd hon => by
                have hN := hN.ofGr ((Gr.refl _).drew.trans hg)
                have hB5 := hB5.gr ((Gr.refl _).drew.trans hg)
                have hB13 := hB13.gr ((Gr.refl _).drew.trans hg)
                have hB14 := hB14.gr ((Gr.refl _).drew.trans hg)
                have hB15 := hB15.gr ((Gr.refl _).drew.trans hg)
                have hB16 := hB16.gr ((Gr.refl _).drew.trans hg)
                have f41 := hd 41 (by decide) _ rfl
                have f46 := hd 46 (by decide) _ rfl
                have f36 := hd 36 (by decide) _ rfl
                have e41 : σ 41 = _ := f41.1 hon
                have e46 : σ 46 = _ := f46.1 hon
                have e36 : σ 36 = _ := f36.1 trivial
                have hgd : σ 36 = .bool false := hon
                have hgb := (f36.1 trivial : σ 36 = _).symm.trans hgd
                simp only [Value.bool.injEq] at hgb
                try simp only [decide_eq_true_eq, decide_eq_false_iff_not, Bool.or_eq_true, Bool.and_eq_true, Bool.or_eq_false_iff, Bool.and_eq_false_iff, Bool.not_eq_true', Bool.not_eq_false', Int.not_lt, Int.not_le, ne_eq, Decidable.not_not] at hgb
                skip
                exact CallOK.sub (r := [(156, _), (161, _), (5, _), (7, _), (9, _), (11, _), (12, _), (13, _), (14, _), (15, _), (16, _)]) ⟨congrArg some e41, congrArg some e46, rfl, rfl, rfl, rfl, rfl, rfl, rfl, rfl, rfl, trivial⟩ (by
                  exact CallOK.V (enters_of rfl rfl hb17) (rsame8' (l := y.take (jall y 0).off) (m := y.take (jall y 0).off) hN.sat (hEx.take _) (hEx.take _) (by simp; omega) (by simp; omega)))
                ), (fun _ _ _ _ _ _ h => h), (fun _ _ _ _ _ _ h => h), ?_⟩
            refine ⟨_, false, (fun σ ι w1 hg hd hon => by
                have f47 := hd 47 (by decide) _ rfl
                have f36 := hd 36 (by decide) _ rfl
                have e47 : σ 47 = _ := f47.1 hon
                have e36 : σ 36 = _ := f36.1 trivial
                have hgd : σ 36 = .bool false := hon
                have hgb := (f36.1 trivial : σ 36 = _).symm.trans hgd
                simp only [Value.bool.injEq] at hgb
                try simp only [decide_eq_true_eq, decide_eq_false_iff_not, Bool.or_eq_true, Bool.and_eq_true, Bool.or_eq_false_iff, Bool.and_eq_false_iff, Bool.not_eq_true', Bool.not_eq_false', Int.not_lt, Int.not_le, ne_eq, Decidable.not_not] at hgb
                exact OpOK.sub (r := [(162, _), (5, _), (7, _), (9, _), (11, _), (12, _), (13, _), (14, _), (15, _), (16, _)]) ⟨congrArg some e47, rfl, rfl, rfl, rfl, rfl, rfl, rfl, rfl, rfl, trivial⟩ (by
                  exact OpOK.eq (r_not rfl))
                ), (fun _ _ _ _ _ _ h => h), (FreeR.no _), ?_⟩
            refine ⟨_, false, (fun σ ι w1 hg hd hon => by
                have f36 := hd 36 (by decide) _ rfl
                have f48 := hd 48 (by decide) _ rfl
                have e36 : σ 36 = _ := f36.1 trivial
                have ec : σ 36 = _ := f36.1 trivial
                exact OpOK.id (by refine OpOK.or (dc := 151) (dy := 163) (kc := σ 36) (ky := σ 48) ?_ ?_ ec (fun hb => f48.1 (by show σ 36 = _; rw [ec]; exact congrArg Value.bool hb)) <;> rfl)
                ), (fun _ _ _ _ _ _ h => h), (FreeR.no _), ?_⟩
            intro σ ι a43 w46 hgw46 H133 hd hap
            skip
            have hN0 := hN
            have hN := hN.ofGr ((Gr.refl _).drew.trans hgw46)
            replace hB5 := hB5.gr ((Gr.refl _).drew.trans hgw46)
            replace hB13 := hB13.gr ((Gr.refl _).drew.trans hgw46)
            replace hB14 := hB14.gr ((Gr.refl _).drew.trans hgw46)
            replace hB15 := hB15.gr ((Gr.refl _).drew.trans hgw46)
            replace hB16 := hB16.gr ((Gr.refl _).drew.trans hgw46)
            have e49 : σ 49 = _ := (hd 49 (by decide) _ rfl).1 trivial
            replace H133 := H133.sub (r := [(164, _), (5, _), (7, _), (9, _), (11, _), (12, _), (13, _), (14, _), (15, _), (16, _)]) ⟨congrArg some e49, rfl, rfl, rfl, rfl, rfl, rfl, rfl, rfl, rfl, trivial⟩
            clear hd
            replace H133 := H133.known (t := 164) (b := false) rfl (by simp)
            clear hap
            refine wl_end ?_
            refine th_n ?_
            refine w_ff H133 rfl rfl ?_
            refine wpIn_skip ?_
            refine th_n ?_
            refine wpIn_seq ?_
            obtain ⟨Ax, cx, hcx, hlx, hEx⟩ := hEall.rowAt hi2
            rw [← hy] at hcx hlx hEx
            have hS0 := hN.sat
            have hNsz23 := hN.gr.size
            refine w_drawE (m := 17) (l0 := [(5, _), (7, _), (9, _), (11, _), (12, _)]) hfol H133 ⟨rfl, rfl, rfl, rfl, rfl, trivial⟩ (by kernel_rfl) ?_
            refine ⟨_, false, (fun σ ι w1 hg hd hon => by
                exact OpOK.sub (r := [(5, _), (7, _), (9, _), (11, _), (12, _)]) ⟨rfl, rfl, rfl, rfl, rfl, trivial⟩ (by
                  exact OpOK.eq (r_move rfl))
                ), (fun _ _ _ _ _ _ h => h), (FreeR.no _), ?_⟩
            refine ⟨_, false, (fun σ ι w1 hg hd hon => by
                exact OpOK.sub (r := [(5, _), (7, _), (9, _), (11, _), (12, _)]) ⟨rfl, rfl, rfl, rfl, rfl, trivial⟩ (by
                  exact OpOK.eq (r_move rfl))
                ), (fun _ _ _ _ _ _ h => h), (FreeR.no _), ?_⟩
            refine ⟨_, false, (fun σ ι w1 hg hd hon => by
                have f0 := hd 0 (by decide) _ rfl
                have f1 := hd 1 (by decide) _ rfl
                have e0 : σ 0 = _ := f0.1 trivial
                have e1 : σ 1 = _ := f1.1 trivial
                exact OpOK.sub (r := [(165, _), (166, _), (5, _), (7, _), (9, _), (11, _), (12, _)]) ⟨congrArg some e0, congrArg some e1, rfl, rfl, rfl, rfl, rfl, trivial⟩ (by
                  exact OpOK.eq (r_idx Try.underlying30 sz22 rfl rfl (i := i) rfl (by omega)))
                ), (fun _ _ _ _ _ _ h => h), (FreeR.no _), ?_⟩
            refine ⟨_, false, (fun σ ι w1 hg hd hon => by
                have hN := hN.ofGr ((Gr.refl _).drew.trans hg)
                have hB5 := hB5.gr ((Gr.refl _).drew.trans hg)
                have hB13 := hB13.gr ((Gr.refl _).drew.trans hg)
                have hB14 := hB14.gr ((Gr.refl _).drew.trans hg)
                have hB15 := hB15.gr ((Gr.refl _).drew.trans hg)
                have hB16 := hB16.gr ((Gr.refl _).drew.trans hg)
                have f2 := hd 2 (by decide) _ rfl
                have e2 : σ 2 = _ := f2.1 trivial
                exact OpOK.sub (r := [(167, _), (5, _), (7, _), (9, _), (11, _), (12, _)]) ⟨congrArg some e2, rfl, rfl, rfl, rfl, rfl, trivial⟩ (by
                  exact OpOK.eq (r_load sc22 rfl (hN.sat.cell hcx)))
                ), (fun _ _ _ _ _ _ h => h), (FreeR.no _), ?_⟩
            refine ⟨_, false, (fun σ ι w1 hg hd hon => by
                exact OpOK.sub (r := [(5, _), (7, _), (9, _), (11, _), (12, _)]) ⟨rfl, rfl, rfl, rfl, rfl, trivial⟩ (by
                  exact OpOK.eq (r_idxA Try.underlying25 sz24 rfl rfl (i := 0) rfl (by omega)))
                ), (fun _ _ _ _ _ _ h => h), (FreeR.no _), ?_⟩
            refine ⟨_, false, (fun σ ι w1 hg hd hon => by
                have hN := hN.ofGr ((Gr.refl _).drew.trans hg)
                have hB5 := hB5.gr ((Gr.refl _).drew.trans hg)
                have hB13 := hB13.gr ((Gr.refl _).drew.trans hg)
                have hB14 := hB14.gr ((Gr.refl _).drew.trans hg)
                have hB15 := hB15.gr ((Gr.refl _).drew.trans hg)
                have hB16 := hB16.gr ((Gr.refl _).drew.trans hg)
                have f4 := hd 4 (by decide) _ rfl
                have e4 : σ 4 = _ := f4.1 trivial
                exact OpOK.sub (r := [(169, _), (5, _), (7, _), (9, _), (11, _), (12, _)]) ⟨congrArg some e4, rfl, rfl, rfl, rfl, rfl, trivial⟩ (by
                  exact OpOK.eq (r_load sc24 rfl (hB5.cell rfl)))
                ), (fun _ _ _ _ _ _ h => h), (FreeR.no _), ?_⟩
            refine ⟨_, false, (fun σ ι w1 hg hd hon => by
                have f5 := hd 5 (by decide) _ rfl
                have e5 : σ 5 = _ := f5.1 trivial
                exact OpOK.sub (r := [(170, _), (5, _), (7, _), (9, _), (11, _), (12, _)]) ⟨congrArg some e5, rfl, rfl, rfl, rfl, rfl, trivial⟩ (by
                  first | exact OpOK.eq (r_convk Try.underlying24 Try.underlying3 rfl (by simp only [InK]; omega)) | exact OpOK.eq (r_conv Try.underlying24 Try.underlying3 rfl))
                ), (fun _ _ _ _ _ _ h => h), (FreeR.no _), ?_⟩
            refine ⟨_, false, (fun σ ι w1 hg hd hon => by
                have f6 := hd 6 (by decide) _ rfl
                have e6 : σ 6 = _ := f6.1 trivial
                exact OpOK.sub (r := [(171, _), (5, _), (7, _), (9, _), (11, _), (12, _)]) ⟨congrArg some e6, rfl, rfl, rfl, rfl, rfl, trivial⟩ (by
                  first | exact OpOK.eq (r_subk rfl rfl (by simp only [InK]; omega)) | exact OpOK.eq (r_sub rfl rfl))
                ), (fun _ _ _ _ _ _ h => h), (FreeR.no _), ?_⟩
            refine ⟨_, true, (fun σ ι w1 hg hd hon => by
                have hN := hN.ofGr ((Gr.refl _).drew.trans hg)
                have hB5 := hB5.gr ((Gr.refl _).drew.trans hg)
                have hB13 := hB13.gr ((Gr.refl _).drew.trans hg)
                have hB14 := hB14.gr ((Gr.refl _).drew.trans hg)
                have hB15 := hB15.gr ((Gr.refl _).drew.trans hg)
                have hB16 := hB16.gr ((Gr.refl _).drew.trans hg)
                have f3 := hd 3 (by decide) _ rfl
                have f7 := hd 7 (by decide) _ rfl
                have e3 : σ 3 = _ := f3.1 trivial
                have e7 : σ 7 = _ := f7.1 trivial
                skip
                exact CallOK.sub (r := [(168, _), (172, _), (5, _), (7, _), (9, _), (11, _), (12, _)]) ⟨congrArg some e3, congrArg some e7, rfl, rfl, rfl, rfl, rfl, trivial⟩ (by
                  exact CallOK.V (enters_of rfl rfl hb20) (jcut (n := k0 - 9) (l := y) hN.sat hlx))
                ), (fun _ _ _ _ _ _ h => h), (fun _ _ _ _ _ _ h => h), ?_⟩
            refine ⟨_, false, (fun σ ι w1 hg hd hon => by
                exact OpOK.sub (r := [(5, _), (7, _), (9, _), (11, _), (12, _)]) ⟨rfl, rfl, rfl, rfl, rfl, trivial⟩ (by
                  exact OpOK.eq (r_move rfl))
                ), (fun _ _ _ _ _ _ h => h), (FreeR.no _), ?_⟩
            refine ⟨_, false, (fun σ ι w1 hg hd hon => by
                exact OpOK.sub (r := [(5, _), (7, _), (9, _), (11, _), (12, _)]) ⟨rfl, rfl, rfl, rfl, rfl, trivial⟩ (by
                  exact OpOK.eq (r_move rfl))
                ), (fun _ _ _ _ _ _ h => h), (FreeR.no _), ?_⟩
            refine ⟨_, false, (fun σ ι w1 hg hd hon => by
                have f9 := hd 9 (by decide) _ rfl
                have f10 := hd 10 (by decide) _ rfl
                have e9 : σ 9 = _ := f9.1 trivial
                have e10 : σ 10 = _ := f10.1 trivial
                exact OpOK.sub (r := [(174, _), (175, _), (5, _), (7, _), (9, _), (11, _), (12, _)]) ⟨congrArg some e9, congrArg some e10, rfl, rfl, rfl, rfl, rfl, trivial⟩ (by
                  exact OpOK.eq (r_idx Try.underlying30 sz22 rfl rfl (i := i) rfl (by omega)))
                ), (fun _ _ _ _ _ _ h => h), (FreeR.no _), ?_⟩
            refine ⟨_, false, (fun σ ι w1 hg hd hon => by
                have hN := hN.ofGr ((Gr.refl _).drew.trans hg)
                have hB5 := hB5.gr ((Gr.refl _).drew.trans hg)
                have hB13 := hB13.gr ((Gr.refl _).drew.trans hg)
                have hB14 := hB14.gr ((Gr.refl _).drew.trans hg)
                have hB15 := hB15.gr ((Gr.refl _).drew.trans hg)
                have hB16 := hB16.gr ((Gr.refl _).drew.trans hg)
                have f11 := hd 11 (by decide) _ rfl
                have e11 : σ 11 = _ := f11.1 trivial
                exact OpOK.sub (r := [(176, _), (5, _), (7, _), (9, _), (11, _), (12, _)]) ⟨congrArg some e11, rfl, rfl, rfl, rfl, rfl, trivial⟩ (by
                  exact OpOK.eq (r_load sc22 rfl (hN.sat.cell hcx)))
                ), (fun _ _ _ _ _ _ h => h), (FreeR.no _), ?_⟩
            refine ⟨_, false, (fun σ ι w1 hg hd hon => by
                exact OpOK.sub (r := [(5, _), (7, _), (9, _), (11, _), (12, _)]) ⟨rfl, rfl, rfl, rfl, rfl, trivial⟩ (by
                  exact OpOK.eq (r_idxA Try.underlying25 sz24 rfl rfl (i := 0) rfl (by omega)))
                ), (fun _ _ _ _ _ _ h => h), (FreeR.no _), ?_⟩
            refine ⟨_, false, (fun σ ι w1 hg hd hon => by
                have hN := hN.ofGr ((Gr.refl _).drew.trans hg)
                have hB5 := hB5.gr ((Gr.refl _).drew.trans hg)
                have hB13 := hB13.gr ((Gr.refl _).drew.trans hg)
                have hB14 := hB14.gr ((Gr.refl _).drew.trans hg)
                have hB15 := hB15.gr ((Gr.refl _).drew.trans hg)
                have hB16 := hB16.gr ((Gr.refl _).drew.trans hg)
                have f13 := hd 13 (by decide) _ rfl
                have e13 : σ 13 = _ := f13.1 trivial
                exact OpOK.sub (r := [(178, _), (5, _), (7, _), (9, _), (11, _), (12, _)]) ⟨congrArg some e13, rfl, rfl, rfl, rfl, rfl, trivial⟩ (by
                  exact OpOK.eq (r_load sc24 rfl (hB5.cell rfl)))
                ), (fun _ _ _ _ _ _ h => h), (FreeR.no _), ?_⟩
            refine ⟨_, false, (fun σ ι w1 hg hd hon => by
                have f14 := hd 14 (by decide) _ rfl
                have e14 : σ 14 = _ := f14.1 trivial
                exact OpOK.sub (r := [(179, _), (5, _), (7, _), (9, _), (11, _), (12, _)]) ⟨congrArg some e14, rfl, rfl, rfl, rfl, rfl, trivial⟩ (by
                  first | exact OpOK.eq (r_convk Try.underlying24 Try.underlying3 rfl (by simp only [InK]; omega)) | exact OpOK.eq (r_conv Try.underlying24 Try.underlying3 rfl))
                ), (fun _ _ _ _ _ _ h => h), (FreeR.no _), ?_⟩
            refine ⟨_, false, (fun σ ι w1 hg hd hon => by
                have f15 := hd 15 (by decide) _ rfl
                have e15 : σ 15 = _ := f15.1 trivial
                exact OpOK.sub (r := [(180, _), (5, _), (7, _), (9, _), (11, _), (12, _)]) ⟨congrArg some e15, rfl, rfl, rfl, rfl, rfl, trivial⟩ (by
                  first | exact OpOK.eq (r_subk rfl rfl (by simp only [InK]; omega)) | exact OpOK.eq (r_sub rfl rfl))
                ), (fun _ _ _ _ _ _ h => h), (FreeR.no _), ?_⟩
            intro σ ι a44 w48 hgw48 H134 hd hap
            skip
            have hN0 := hN
            have hN := hN.ofGr ((Gr.refl _).drew.trans hgw48)
            replace hB5 := hB5.gr ((Gr.refl _).drew.trans hgw48)
            replace hB13 := hB13.gr ((Gr.refl _).drew.trans hgw48)
            replace hB14 := hB14.gr ((Gr.refl _).drew.trans hgw48)
            replace hB15 := hB15.gr ((Gr.refl _).drew.trans hgw48)
            replace hB16 := hB16.gr ((Gr.refl _).drew.trans hgw48)
            have e8 : σ 8 = _ := (hd 8 (by decide) _ rfl).1 trivial
            have e12 : σ 12 = _ := (hd 12 (by decide) _ rfl).1 trivial
            have e16 : σ 16 = _ := (hd 16 (by decide) _ rfl).1 trivial
            replace H134 := H134.sub (r := [(173, _), (177, _), (181, _), (5, _), (7, _), (9, _), (11, _), (12, _)]) ⟨congrArg some e8, congrArg some e12, congrArg some e16, rfl, rfl, rfl, rfl, rfl, trivial⟩
            clear hd
            clear hap
            refine wlc  H134 rfl rfl hb21 rfl (rcut (n := k0 - 9) (l := y) hN.sat hlx) fun v w49 hR a45 H135 => ?_
            clear H134 a44
            obtain ⟨rfl, gw49⟩ := hR
            have hN := hN.ofGr gw49
            replace hB5 := hB5.gr gw49
            replace hB13 := hB13.gr gw49
            replace hB14 := hB14.gr gw49
            replace hB15 := hB15.gr gw49
            replace hB16 := hB16.gr gw49
            refine wlc  H135 rfl rfl hb17 rfl (rsame8' (l := y.take (min (max (k0 - 9) 0) (y.length : Int)).toNat) (m := y.take (min (max (k0 - 9) 0) (y.length : Int)).toNat) hN.sat (hEx.take _) (hEx.take _) (by simp; omega) (by simp; omega)) fun v w50 hR a46 H136 => ?_
            clear H135 a45
            obtain ⟨rfl, gw50⟩ := hR
            have hN := hN.ofGr gw50
            replace hB5 := hB5.gr gw50
            replace hB13 := hB13.gr gw50
            replace hB14 := hB14.gr gw50
            replace hB15 := hB15.gr gw50
            replace hB16 := hB16.gr gw50
            refine wl1 H136 (r_not rfl) rfl rfl rfl rfl fun a47 H137 => ?_
            clear H136 a46
            replace H137 := H137.known (t := 184) (b := false) rfl (by simp)
            refine wl_end ?_
            refine th_n ?_
            refine w_ff H137 rfl rfl ?_
            refine wpIn_skip ?_
            refine bl_n ?_
            refine th_n ?_
            refine w_reg ?_
            refine wl1 H137 (r_move rfl) rfl rfl rfl rfl fun a48 H138 => ?_
            clear H137 a47
            first | refine wl1 H138 (r_addk rfl rfl (by simp only [InK]; omega)) rfl rfl rfl rfl fun a49 H139 => ?_ | refine wl1 H138 (r_add rfl rfl) rfl rfl rfl rfl fun a49 H139 => ?_
            clear H138 a48
            refine wl1 H139 (r_assign rfl) rfl rfl rfl rfl fun a50 H140 => ?_
            clear H139 a49
            refine wl_end ?_
            exact th_n ⟨(i + 1, (joinI (joinI (joinI (joinI J36 K4) K9) K5) K11)), (by show 2 - (i + 1) < 2 - i; omega), H140.sub ⟨rfl, rfl, rfl, rfl, rfl, trivial⟩, hleJ2, hN, by show i + 1 ≤ 2; omega, hB5⟩
          ·
            try simp only [decide_eq_true_eq, decide_eq_false_iff_not, Bool.or_eq_true, Bool.and_eq_true, Bool.or_eq_false_iff, Bool.and_eq_false_iff, Bool.not_eq_true', Bool.not_eq_false', Int.not_lt, Int.not_le, ne_eq, Decidable.not_not] at hc90
            refine wpIn_exit ?_
            refine th_x ?_
            refine th_x ?_
            refine bl_hit ?_
            refine th_n ?_
            refine wpIn_seq ?_
            refine w_reg ?_
            refine wl1 H126 (r_move rfl) rfl rfl rfl rfl fun a41 H141 => ?_
            clear H126 a40
            refine wl1 H141 (r_assign rfl) rfl rfl rfl rfl fun a42 H142 => ?_
            clear H141 a41
            refine wl_end ?_
            refine th_n ?_
            refine wpIn_ret ?_
            refine fin_r H142 (res1 rfl H142 rfl) ?_
            exact ⟨rfl, hN.gr⟩
  -- UNUSED r21.49
end Go.Proofs.Yteinlgobadlgnaa
