/- The law JournalDamage, walked. -/
import Derived.Test.YteinlgobadlgnaaLawLW
import Derived.Test.YteinlgobadlgnaaElem
set_option linter.unusedVariables false
set_option linter.unusedSimpArgs false
namespace Go.Proofs.Yteinlgobadlgnaa
open Go.RowKit

set_option maxRecDepth 100000 in
set_option maxHeartbeats 2000000 in
theorem damage_ret {A : Option Addr} {c : Nat} {rs : List (List Int)} {x y : Int} {I : Im} {w : World} (hS : Sat I w) (hA : Els (kSl (kInt .i64)) I A rs) (hlc : rs.length ≤ c) (hx : 0 ≤ x ∧ x ≤ 65535) (hy : 0 ≤ y ∧ y ≤ 255) :
    Ret Try.prog 7 [.slice A rs.length c, .int .u16 x, .int .u8 y] w (fun v w' => v = .bool true ∧ Gr w w') := by
  have hxk := hA.rowsIn
  refine ret_of (N := 108) Try.func7 rfl rfl rfl fun a0 H0 => ?_
  have hN := New.refl hS
  simp only [argsEnv, Nat.zero_add, Nat.reduceAdd] at H0
  refine wpIn_seq ?_
  refine w_reg ?_
  refine wl1 H0 (r_assign rfl) rfl rfl rfl rfl fun a1 H1 => ?_
  clear H0 a0
  refine wl_end ?_
  refine th_n ?_
  refine wpIn_seq ?_
  refine w_reg ?_
  refine wlc  H1 rfl rfl hb9 rfl (examples_ret hN.sat) fun v w1 hR a2 H2 => ?_
  clear H1 a1
  obtain ⟨rfl, gw1⟩ := hR
  have hN := hN.ofGr gw1
  replace H2 := H2.known (t := 15) (b := true) rfl rfl
  refine wl1 H2 (r_assign rfl) rfl rfl rfl rfl fun a3 H3 => ?_
  clear H2 a2
  refine wl_end ?_
  refine th_n ?_
  refine wpIn_seq ?_
  refine wpIn_seq ?_
  refine w_reg ?_
  refine wl1 H3 (r_move rfl) rfl rfl rfl rfl fun a4 H4 => ?_
  clear H3 a3
  refine wl1 H4 (r_not rfl) rfl rfl rfl rfl fun a5 H5 => ?_
  clear H4 a4
  replace H5 := H5.known (t := 17) (b := false) rfl rfl
  refine wl_end ?_
  refine th_n ?_
  refine w_ff H5 rfl rfl ?_
  refine wpIn_skip ?_
  refine th_n ?_
  refine wpIn_seq ?_
  refine wpIn_seq ?_
  refine w_reg ?_
  refine wl1 H5 (r_move rfl) rfl rfl rfl rfl fun a6 H6 => ?_
  clear H5 a5
  refine wlc  H6 rfl rfl hb10 rfl (rsmall hN.sat hA) fun v w2 hR a7 H7 => ?_
  clear H6 a6
  obtain ⟨rfl, gw2⟩ := hR
  have hN := hN.ofGr gw2
  refine wl1 H7 (r_not rfl) rfl rfl rfl rfl fun a8 H8 => ?_
  clear H7 a7
  refine wl_end ?_
  refine th_n ?_
  first | refine w_if H8 rfl (fun hc20 => ?_) (fun hc20 => ?_) | refine w_cond H8 rfl (fun hc20 => ?_) (fun hc20 => ?_)
  ·
    try simp only [decide_eq_true_eq, decide_eq_false_iff_not, Bool.or_eq_true, Bool.and_eq_true, Bool.or_eq_false_iff, Bool.and_eq_false_iff, Bool.not_eq_true', Bool.not_eq_false', Int.not_lt, Int.not_le, ne_eq, Decidable.not_not] at hc20
    refine wpIn_seq ?_
    refine w_reg ?_
    refine wl1 H8 (r_move rfl) rfl rfl rfl rfl fun a9 H9 => ?_
    clear H8 a8
    refine wl1 H9 (r_assign rfl) rfl rfl rfl rfl fun a10 H10 => ?_
    clear H9 a9
    refine wl_end ?_
    refine th_n ?_
    refine wpIn_ret ?_
    refine th_r ?_
    refine fin_r H10 (res1 rfl H10 rfl) ?_
    exact ⟨rfl, hN.gr⟩
  ·
    try simp only [decide_eq_true_eq, decide_eq_false_iff_not, Bool.or_eq_true, Bool.and_eq_true, Bool.or_eq_false_iff, Bool.and_eq_false_iff, Bool.not_eq_true', Bool.not_eq_false', Int.not_lt, Int.not_le, ne_eq, Decidable.not_not] at hc20
    have hsm := small_lenR hc20
    have hgd := small_good hc20 hxk
    have hjf := small_jfold hc20 hxk
    obtain ⟨jl, hjl⟩ : ∃ x, x = chainB 0 rs := ⟨_, rfl⟩
    have hjn : jl.length = lenR rs := by rw [hjl, chainB_length]
    have hrl := (small_len hc20).1
    refine wpIn_skip ?_
    refine th_n ?_
    refine wpIn_seq ?_
    refine w_reg ?_
    refine wl1 H8 (r_move rfl) rfl rfl rfl rfl fun a9 H11 => ?_
    clear H8 a8
    refine wlc  H11 rfl rfl hb22 rfl (lmade hN.sat hA (by omega)) fun v w3 hR a10 H12 => ?_
    clear H11 a9
    obtain ⟨J3, nw3, ⟨A1, c1, A2, c2, rfl, hc1, hE1, hc2, hE2⟩⟩ := hR
    replace hA := hA.up nw3.le
    have hN := hN.trans nw3
    rw [hjf, ← hjl] at H12 hc1 hE1
    refine wl1 H12 (r_move rfl) rfl rfl rfl rfl fun a11 H13 => ?_
    clear H12 a10
    refine wl1 H13 (r_extract rfl rfl) rfl rfl rfl rfl fun a12 H14 => ?_
    clear H13 a11
    refine wl1 H14 (r_extract rfl rfl) rfl rfl rfl rfl fun a13 H15 => ?_
    clear H14 a12
    refine wl1 H15 (r_assign rfl) rfl rfl rfl rfl fun a14 H16 => ?_
    clear H15 a13
    refine wl1 H16 (r_assign rfl) rfl rfl rfl rfl fun a15 H17 => ?_
    clear H16 a14
    refine wl_end ?_
    refine th_n ?_
    refine wpIn_seq ?_
    refine wpIn_seq ?_
    refine w_reg ?_
    refine wl1 H17 (r_move rfl) rfl rfl rfl rfl fun a16 H18 => ?_
    clear H17 a15
    refine wl1 H18 (r_len Try.underlying22 rfl) rfl rfl rfl rfl fun a17 H19 => ?_
    clear H18 a16
    refine wl1 H19 (r_eql rfl rfl) rfl rfl rfl rfl fun a18 H20 => ?_
    clear H19 a17
    refine wl1 H20 (r_move rfl) rfl rfl rfl rfl fun a19 H21 => ?_
    clear H20 a18
    refine wl_split (t := 30) H21 rfl (fun hg7_3 H22 => ?_) (fun hg7_3 H22 => ?_)
    ·
      clear H21
      try simp only [decide_eq_true_eq, decide_eq_false_iff_not, Bool.or_eq_true, Bool.and_eq_true, Bool.or_eq_false_iff, Bool.and_eq_false_iff, Bool.not_eq_true', Bool.not_eq_false', Int.not_lt, Int.not_le, ne_eq, Decidable.not_not] at hg7_3
      refine wl_off (d := 30) H22 rfl rfl rfl rfl rfl rfl fun a20 H23 => ?_
      clear H22 a19
      refine wl_off (d := 30) H23 rfl rfl rfl rfl rfl rfl fun a21 H24 => ?_
      clear H23 a20
      refine wl1 H24 (r_pick_t rfl rfl) rfl rfl rfl rfl fun a22 H25 => ?_
      clear H24 a21
      refine wl_end ?_
      refine th_n ?_
      refine w_tt H25 rfl rfl ?_
      refine wpIn_seq ?_
      refine w_reg ?_
      refine wl1 H25 (r_move rfl) rfl rfl rfl rfl fun a23 H26 => ?_
      clear H25 a22
      refine wl1 H26 (r_assign rfl) rfl rfl rfl rfl fun a24 H27 => ?_
      clear H26 a23
      refine wl_end ?_
      refine th_n ?_
      refine wpIn_ret ?_
      refine th_r ?_
      refine fin_r H27 (res1 rfl H27 rfl) ?_
      exact ⟨rfl, hN.gr⟩
    ·
      clear H21
      try simp only [decide_eq_true_eq, decide_eq_false_iff_not, Bool.or_eq_true, Bool.and_eq_true, Bool.or_eq_false_iff, Bool.and_eq_false_iff, Bool.not_eq_true', Bool.not_eq_false', Int.not_lt, Int.not_le, ne_eq, Decidable.not_not] at hg7_3
      refine wl_on (d := 30) H22 rfl rfl rfl ?_
      refine wl1 H22 (r_move rfl) rfl rfl rfl rfl fun a20 H28 => ?_
      clear H22 a19
      refine wl_on (d := 30) H28 rfl rfl rfl ?_
      refine wl1 H28 (r_eql rfl rfl) rfl rfl rfl rfl fun a21 H29 => ?_
      clear H28 a20
      refine wl1 H29 (r_pick_f rfl rfl) rfl rfl rfl rfl fun a22 H30 => ?_
      clear H29 a21
      refine wl_end ?_
      refine th_n ?_
      first | refine w_if H30 rfl (fun hc33 => ?_) (fun hc33 => ?_) | refine w_cond H30 rfl (fun hc33 => ?_) (fun hc33 => ?_)
      ·
        try simp only [decide_eq_true_eq, decide_eq_false_iff_not, Bool.or_eq_true, Bool.and_eq_true, Bool.or_eq_false_iff, Bool.and_eq_false_iff, Bool.not_eq_true', Bool.not_eq_false', Int.not_lt, Int.not_le, ne_eq, Decidable.not_not] at hc33
        refine wpIn_seq ?_
        refine w_reg ?_
        refine wl1 H30 (r_move rfl) rfl rfl rfl rfl fun a23 H31 => ?_
        clear H30 a22
        refine wl1 H31 (r_assign rfl) rfl rfl rfl rfl fun a24 H32 => ?_
        clear H31 a23
        refine wl_end ?_
        refine th_n ?_
        refine wpIn_ret ?_
        refine th_r ?_
        refine fin_r H32 (res1 rfl H32 rfl) ?_
        exact ⟨rfl, hN.gr⟩
      ·
        try simp only [decide_eq_true_eq, decide_eq_false_iff_not, Bool.or_eq_true, Bool.and_eq_true, Bool.or_eq_false_iff, Bool.and_eq_false_iff, Bool.not_eq_true', Bool.not_eq_false', Int.not_lt, Int.not_le, ne_eq, Decidable.not_not] at hc33
        refine wpIn_skip ?_
        refine th_n ?_
        refine wpIn_seq ?_
        refine w_reg ?_
        refine wl1 H30 (r_move rfl) rfl rfl rfl rfl fun a23 H33 => ?_
        clear H30 a22
        first | refine wl1 H33 (r_convk Try.underlying24 Try.underlying3 rfl (by simp only [InK]; omega)) rfl rfl rfl rfl fun a24 H34 => ?_ | refine wl1 H33 (r_conv Try.underlying24 Try.underlying3 rfl) rfl rfl rfl rfl fun a24 H34 => ?_
        clear H33 a23
        refine wl1 H34 (r_move rfl) rfl rfl rfl rfl fun a25 H35 => ?_
        clear H34 a24
        refine wl1 H35 (r_len Try.underlying22 rfl) rfl rfl rfl rfl fun a26 H36 => ?_
        clear H35 a25
        refine wl1 H36 (r_remk rfl rfl (by omega) (by omega)) rfl rfl rfl rfl fun a27 H37 => ?_
        clear H36 a26
        obtain ⟨n0, hn0⟩ : ∃ n : Nat, x % (jl.length : Int) = (n : Int) := ⟨(x % (jl.length : Int)).toNat, by have := Int.emod_nonneg x (show (jl.length : Int) ≠ 0 by omega); omega⟩
        have hn1 : n0 < jl.length := by have := Int.emod_lt_of_pos x (show (0 : Int) < (jl.length : Int) by omega); omega
        rw [hn0] at H37
        refine wl1 H37 (r_assign rfl) rfl rfl rfl rfl fun a28 H38 => ?_
        clear H37 a27
        refine wl_end ?_
        refine th_n ?_
        refine wpIn_seq ?_
        refine w_reg ?_
        refine wl1 H38 (r_assign rfl) rfl rfl rfl rfl fun a29 H39 => ?_
        clear H38 a28
        refine wl1 H39 (r_assign rfl) rfl rfl rfl rfl fun a30 H40 => ?_
        clear H39 a29
        refine wl_end ?_
        refine th_n ?_
        refine wpIn_seq ?_
        refine wpIn_block ?_
        refine w_loop (ι := Nat) (fun k => [(11, .int .i64 (k : Int)), (12, .int .i64 ((lenR (rs.take k) : Nat) : Int))]) (fun k W => New I w J3 W ∧ (k ≤ rs.length ∧ lenR (rs.take k) ≤ n0)) (fun k => rs.length - k) (l0 := [(0, _), (2, _), (6, _), (7, _), (8, _), (9, _), (10, _)]) 0 H40 ⟨rfl, rfl, rfl, rfl, rfl, rfl, rfl, rfl, rfl, trivial⟩ ⟨hN, Nat.zero_le _, Nat.zero_le _⟩ ?_
        rintro k a31 w4 H41 ⟨hN, hk, hk1⟩
        clear H40 a30
        simp only [List.cons_append, List.nil_append] at H41
        refine wpIn_seq ?_
        refine wpIn_seq ?_
        refine w_reg ?_
        refine wl1 H41 (r_move rfl) rfl rfl rfl rfl fun a32 H42 => ?_
        clear H41 a31
        refine wl1 H42 (r_move rfl) rfl rfl rfl rfl fun a33 H43 => ?_
        clear H42 a32
        refine wl1 H43 (r_len Try.underlying29 rfl) rfl rfl rfl rfl fun a34 H44 => ?_
        clear H43 a33
        refine wl1 H44 (r_lss rfl rfl) rfl rfl rfl rfl fun a35 H45 => ?_
        clear H44 a34
        refine wl1 H45 (r_move rfl) rfl rfl rfl rfl fun a36 H46 => ?_
        clear H45 a35
        refine wl_split (t := 44) H46 rfl (fun hg11_4 H47 => ?_) (fun hg11_4 H47 => ?_)
        ·
          clear H46
          try simp only [decide_eq_true_eq, decide_eq_false_iff_not, Bool.or_eq_true, Bool.and_eq_true, Bool.or_eq_false_iff, Bool.and_eq_false_iff, Bool.not_eq_true', Bool.not_eq_false', Int.not_lt, Int.not_le, ne_eq, Decidable.not_not] at hg11_4
          obtain ⟨b2, o2, rfl⟩ := hE2.form (by omega)
          have hkr : k < rs.length := by rw [jends_length] at hg11_4; omega
          have hkj : k < (jends rs).length := by omega
          refine wl_on (d := 44) H47 rfl rfl rfl ?_
          refine wl1 H47 (r_move rfl) rfl rfl rfl rfl fun a37 H48 => ?_
          clear H47 a36
          refine wl_on (d := 44) H48 rfl rfl rfl ?_
          refine wl1 H48 (r_move rfl) rfl rfl rfl rfl fun a38 H49 => ?_
          clear H48 a37
          refine wl_on (d := 44) H49 rfl rfl rfl ?_
          refine wl1 H49 (r_idx Try.underlying29 sz3 rfl rfl (i := k) rfl (by omega)) rfl rfl rfl rfl fun a39 H50 => ?_
          clear H49 a38
          refine wl_on (d := 44) H50 rfl rfl rfl ?_
          refine wl1 H50 (r_load sc3 rfl (hN.sat.cell (hE2.num (j := k) hkj).1)) rfl rfl rfl rfl fun a40 H51 => ?_
          clear H50 a39
          rw [jends_at hgd (by omega) hkj] at H51
          refine wl_on (d := 44) H51 rfl rfl rfl ?_
          refine wl1 H51 (r_move rfl) rfl rfl rfl rfl fun a41 H52 => ?_
          clear H51 a40
          refine wl_on (d := 44) H52 rfl rfl rfl ?_
          refine wl1 H52 (r_leq rfl rfl) rfl rfl rfl rfl fun a42 H53 => ?_
          clear H52 a41
          refine wl1 H53 (r_pick_t rfl rfl) rfl rfl rfl rfl fun a43 H54 => ?_
          clear H53 a42
          refine wl_end ?_
          refine th_n ?_
          first | refine w_if H54 rfl (fun hc51 => ?_) (fun hc51 => ?_) | refine w_cond H54 rfl (fun hc51 => ?_) (fun hc51 => ?_)
          ·
            try simp only [decide_eq_true_eq, decide_eq_false_iff_not, Bool.or_eq_true, Bool.and_eq_true, Bool.or_eq_false_iff, Bool.and_eq_false_iff, Bool.not_eq_true', Bool.not_eq_false', Int.not_lt, Int.not_le, ne_eq, Decidable.not_not] at hc51
            refine wpIn_skip ?_
            refine th_n ?_
            refine wpIn_block ?_
            refine wpIn_seq ?_
            refine w_reg ?_
            refine wl1 H54 (r_move rfl) rfl rfl rfl rfl fun a44 H55 => ?_
            clear H54 a43
            refine wl1 H55 (r_move rfl) rfl rfl rfl rfl fun a45 H56 => ?_
            clear H55 a44
            refine wl1 H56 (r_idx Try.underlying29 sz3 rfl rfl (i := k) rfl (by omega)) rfl rfl rfl rfl fun a46 H57 => ?_
            clear H56 a45
            refine wl1 H57 (r_load sc3 rfl (hN.sat.cell (hE2.num (j := k) hkj).1)) rfl rfl rfl rfl fun a47 H58 => ?_
            clear H57 a46
            rw [jends_at hgd (by omega) hkj] at H58
            refine wl1 H58 (r_assign rfl) rfl rfl rfl rfl fun a48 H59 => ?_
            clear H58 a47
            refine wl_end ?_
            refine th_n ?_
            refine w_reg ?_
            refine wl1 H59 (r_move rfl) rfl rfl rfl rfl fun a49 H60 => ?_
            clear H59 a48
            first | refine wl1 H60 (r_addk rfl rfl (by simp only [InK]; omega)) rfl rfl rfl rfl fun a50 H61 => ?_ | refine wl1 H60 (r_add rfl rfl) rfl rfl rfl rfl fun a50 H61 => ?_
            clear H60 a49
            refine wl1 H61 (r_assign rfl) rfl rfl rfl rfl fun a51 H62 => ?_
            clear H61 a50
            refine wl_end ?_
            refine bl_n ?_
            exact th_n ⟨k + 1, (by omega), H62.sub ⟨rfl, rfl, rfl, rfl, rfl, rfl, rfl, rfl, rfl, trivial⟩, hN, by omega, by omega⟩
          ·
            try simp only [decide_eq_true_eq, decide_eq_false_iff_not, Bool.or_eq_true, Bool.and_eq_true, Bool.or_eq_false_iff, Bool.and_eq_false_iff, Bool.not_eq_true', Bool.not_eq_false', Int.not_lt, Int.not_le, ne_eq, Decidable.not_not] at hc51
            have hkx : k < rs.length → n0 < lenR (rs.take (k + 1)) := fun _ => by omega
            have hkr2 : k < rs.length := by
              rcases Nat.lt_or_ge k rs.length with h | h
              · exact h
              · rw [List.take_of_length_le h] at hk1; omega
            have hkx2 := hkx hkr2
            have hlk := lenR_take rs k
            have hrk : (rs.take k).length = k := by simp; omega
            obtain ⟨lo, hlo⟩ : ∃ q, q = lenR (rs.take k) := ⟨_, rfl⟩
            have hx8 := xor8 (hE1.inK jl[n0] (List.getElem_mem _)) hy
            obtain ⟨b, hb⟩ : ∃ b, b = ibits .xor .u8 jl[n0] y := ⟨_, rfl⟩
            rw [← hb] at hx8
            have hjd : jall (jl.set n0 b) 0 = ⟨rs.take k, lo, lastK 0 (rs.take k)⟩ := by
              rw [hlo, hjl]
              refine jall_damage hgd hkr2 hk1 hkx2 hx8.1 (fun e => hx8.2 (by omega) ?_)
              rw [← hjl, List.getElem?_eq_getElem hn1] at e
              injection e with e
              exact e.symm
            rw [← hlo] at hk1 hlk H54
            obtain ⟨pl, hpl⟩ : ∃ p, p = jl.set n0 b := ⟨_, rfl⟩
            rw [← hpl] at hjd
            have hln : pl.length = jl.length := by rw [hpl]; simp
            have hpt : pl.take lo = jl.take lo := by rw [hpl, List.take_set, List.set_eq_of_length_le (by simp; omega)]
            refine wpIn_exit ?_
            refine th_x ?_
            refine th_x ?_
            refine bl_hit ?_
            refine th_n ?_
            refine wpIn_seq ?_
            refine w_reg ?_
            refine s_lit1 (cs := []) H54 Try.underlying22 sz5 zv5 rfl rfl rfl (by simp [Value.oneCell']) rfl hN fun w5 l58 K5 hKl58 hlel58 hN nw5 hgel58 a44 H63 => ?_
            clear H54 a43
            replace hA := hA.up nw5.le
            replace hE1 := hE1.up nw5.le
            replace hE2 := hE2.up nw5.le
            refine wl1 H63 (r_move rfl) rfl rfl rfl rfl fun a45 H64 => ?_
            clear H63 a44
            refine s_app (d := kInt .u8) (B := w.heap.size) H64 rfl rfl Try.underlying22 nf5 rfl (by decide) (by decide) rfl hN (.inr ⟨_, rfl, Els.nil _ _ _⟩) hE1 rfl (Nat.le_refl _) hN.gr.size (by simp; omega) fun vw6 w6 hO hOO hOO2 kw6 hN a46 H65 => ?_
            clear H64 a45
            obtain ⟨go, co, cs, rest, rfl, hco, _, hgo, hR, hBo⟩ := (hOO (by omega)).box (by simp; omega)
            clear hO hOO hOO2
            obtain ⟨rfl, _⟩ := hR.ints
            clear hR
            rw [List.nil_append] at hBo H65 hco
            refine wl1 H65 (r_assign rfl) rfl rfl rfl rfl fun a47 H66 => ?_
            clear H65 a46
            refine wl_end ?_
            refine th_n ?_
            refine wpIn_seq ?_
            refine w_reg ?_
            refine wl1 H66 (r_move rfl) rfl rfl rfl rfl fun a48 H67 => ?_
            clear H66 a47
            refine wl1 H67 (r_move rfl) rfl rfl rfl rfl fun a49 H68 => ?_
            clear H67 a48
            refine wl1 H68 (r_move rfl) rfl rfl rfl rfl fun a50 H69 => ?_
            clear H68 a49
            refine wl1 H69 (r_move rfl) rfl rfl rfl rfl fun a51 H70 => ?_
            clear H69 a50
            refine wl1 H70 (r_idx Try.underlying22 sz5 rfl rfl (i := n0) rfl (by omega)) rfl rfl rfl rfl fun a52 H71 => ?_
            clear H70 a51
            refine wl1 H71 (r_load sc5 rfl (hBo.cell (own_elem hn1))) rfl rfl rfl rfl fun a53 H72 => ?_
            clear H71 a52
            refine wl1 H72 (r_move rfl) rfl rfl rfl rfl fun a54 H73 => ?_
            clear H72 a53
            refine wl1 H73 (r_xor rfl rfl) rfl rfl rfl rfl fun a55 H74 => ?_
            clear H73 a54
            rw [← hb] at H74
            refine wl1 H74 (r_idx Try.underlying22 sz5 rfl rfl (i := n0) rfl (by omega)) rfl rfl rfl rfl fun a56 H75 => ?_
            clear H74 a55
            refine s_store H75 sz5 rfl rfl rfl hN hBo (by simp; omega) hgo fun w7 hN hBo ew7 H76 => ?_
            clear H75
            rw [own_set hn1, ← hpl] at hBo
            clear ew7
            refine wl_end ?_
            refine th_n ?_
            refine wpIn_seq ?_
            refine w_reg ?_
            refine wl1 H76 (r_move rfl) rfl rfl rfl rfl fun a57 H77 => ?_
            clear H76 a56
            rw [show jl.length = pl.length from hln.symm] at H77
            obtain ⟨Kz7, hN, hEo, hleKz7, hsmKz7⟩ := hN.freezeRow hBo (Row.nums (by rw [hpl]; exact own_setIn hE1.inK hx8.1)) hgo (by omega)
            replace hA := hA.up hleKz7
            replace hE1 := hE1.up hleKz7
            replace hE2 := hE2.up hleKz7
            refine wlc  H77 rfl rfl hb12 rfl (lread (l := pl) hN.sat hEo (by omega) (by omega)) fun v w9 hR a58 H78 => ?_
            clear H77 a57
            obtain ⟨J9, nw9, ⟨A3, c3, A4, c4, rfl, hc3, hE3, hc4, hE4⟩⟩ := hR
            replace hA := hA.up nw9.le
            replace hE1 := hE1.up nw9.le
            replace hE2 := hE2.up nw9.le
            replace hEo := hEo.up nw9.le
            have hN := hN.trans nw9
            simp only [hjd] at H78 hE3 hE4 hc3 hc4
            refine s_alloc H78 zv34 rfl hN fun w10 b14 hN gw10 hB14 hgeb14 heb14 a59 H79 => ?_
            clear H78 a58
            replace hB14 : Box _ _ _ [.slice none 0 0, .slice none 0 0, .int .i64 0, .int .i64 0, .int .u64 0] 34 := hB14
            refine s_storeA (vs := [_, _, _, _, _]) H79 sz34 (by simp) (by simp [Value.oneCell']) rfl rfl hN hB14 (by simp) hgeb14 fun w11 hN hB14 ew11 H80 => ?_
            clear H79
            simp only [Nat.zero_add, Nat.add_zero, Nat.reduceAdd, Nat.reduceMul, List.set_cons_zero, List.set_cons_succ, spliceL] at hB14
            clear ew11
            refine wl_end ?_
            refine th_n ?_
            refine wpIn_seq ?_
            have hS0 := hN.sat
            have hNsz17 := hN.gr.size
            refine w_drawE (m := 27) (l0 := [(0, _), (6, _), (7, _), (8, _), (11, _), (12, _), (13, _), (14, _)]) hfol H80 ⟨rfl, rfl, rfl, rfl, rfl, rfl, rfl, rfl, trivial⟩ (by kernel_rfl) ?_
            refine ⟨_, false, (fun σ ι w1 hg hd hon => by
                exact OpOK.sub (r := [(0, _), (6, _), (7, _), (8, _), (11, _), (12, _), (13, _), (14, _)]) ⟨rfl, rfl, rfl, rfl, rfl, rfl, rfl, rfl, trivial⟩ (by
                  exact OpOK.eq (r_fld fld34_2 rfl))
                ), (fun _ _ _ _ _ _ h => h), (FreeR.no _), ?_⟩
            refine ⟨_, false, (fun σ ι w1 hg hd hon => by
                have hN := hN.ofGr ((Gr.refl _).drew.trans hg)
                have hB14 := hB14.gr ((Gr.refl _).drew.trans hg)
                have f0 := hd 0 (by decide) _ rfl
                have e0 : σ 0 = _ := f0.1 trivial
                exact OpOK.sub (r := [(72, _), (0, _), (6, _), (7, _), (8, _), (11, _), (12, _), (13, _), (14, _)]) ⟨congrArg some e0, rfl, rfl, rfl, rfl, rfl, rfl, rfl, rfl, trivial⟩ (by
                  exact OpOK.eq (r_load sc31 rfl (hB14.cell rfl)))
                ), (fun _ _ _ _ _ _ h => h), (FreeR.no _), ?_⟩
            refine ⟨_, false, (fun σ ι w1 hg hd hon => by
                have f1 := hd 1 (by decide) _ rfl
                have e1 : σ 1 = _ := f1.1 trivial
                exact OpOK.sub (r := [(73, _), (0, _), (6, _), (7, _), (8, _), (11, _), (12, _), (13, _), (14, _)]) ⟨congrArg some e1, rfl, rfl, rfl, rfl, rfl, rfl, rfl, rfl, trivial⟩ (by
                  exact OpOK.eq (r_eql rfl rfl))
                ), (fun _ _ _ _ _ _ h => h), (FreeR.no _), ?_⟩
            refine ⟨_, false, (fun σ ι w1 hg hd hon => by
                have f2 := hd 2 (by decide) _ rfl
                have e2 : σ 2 = _ := f2.1 trivial
                exact OpOK.sub (r := [(74, _), (0, _), (6, _), (7, _), (8, _), (11, _), (12, _), (13, _), (14, _)]) ⟨congrArg some e2, rfl, rfl, rfl, rfl, rfl, rfl, rfl, rfl, trivial⟩ (by
                  exact OpOK.eq (r_move rfl))
                ), (fun _ _ _ _ _ _ h => h), (FreeR.no _), ?_⟩
            refine ⟨_, false, (fun σ ι w1 hg hd hon => by
                have f3 := hd 3 (by decide) _ rfl
                have e3 : σ 3 = _ := f3.1 trivial
                have hgd : σ 3 = .bool true := hon
                have hgb := (f3.1 trivial : σ 3 = _).symm.trans hgd
                simp only [Value.bool.injEq] at hgb
                try simp only [decide_eq_true_eq, decide_eq_false_iff_not, Bool.or_eq_true, Bool.and_eq_true, Bool.or_eq_false_iff, Bool.and_eq_false_iff, Bool.not_eq_true', Bool.not_eq_false', Int.not_lt, Int.not_le, ne_eq, Decidable.not_not] at hgb
                exact OpOK.sub (r := [(0, _), (6, _), (7, _), (8, _), (11, _), (12, _), (13, _), (14, _)]) ⟨rfl, rfl, rfl, rfl, rfl, rfl, rfl, rfl, trivial⟩ (by
                  exact OpOK.eq (r_fld fld34_0 rfl))
                ), (fun _ _ _ _ _ _ h => h), (FreeR.no _), ?_⟩
            refine ⟨_, false, (fun σ ι w1 hg hd hon => by
                have hN := hN.ofGr ((Gr.refl _).drew.trans hg)
                have hB14 := hB14.gr ((Gr.refl _).drew.trans hg)
                have f4 := hd 4 (by decide) _ rfl
                have f3 := hd 3 (by decide) _ rfl
                have e4 : σ 4 = _ := f4.1 hon
                have e3 : σ 3 = _ := f3.1 trivial
                have hgd : σ 3 = .bool true := hon
                have hgb := (f3.1 trivial : σ 3 = _).symm.trans hgd
                simp only [Value.bool.injEq] at hgb
                try simp only [decide_eq_true_eq, decide_eq_false_iff_not, Bool.or_eq_true, Bool.and_eq_true, Bool.or_eq_false_iff, Bool.and_eq_false_iff, Bool.not_eq_true', Bool.not_eq_false', Int.not_lt, Int.not_le, ne_eq, Decidable.not_not] at hgb
                exact OpOK.sub (r := [(76, _), (0, _), (6, _), (7, _), (8, _), (11, _), (12, _), (13, _), (14, _)]) ⟨congrArg some e4, rfl, rfl, rfl, rfl, rfl, rfl, rfl, rfl, trivial⟩ (by
                  exact OpOK.eq (r_load sc23 rfl (hB14.cell rfl)))
                ), (fun _ _ _ _ _ _ h => h), (FreeR.no _), ?_⟩
            refine ⟨_, false, (fun σ ι w1 hg hd hon => by
                have f3 := hd 3 (by decide) _ rfl
                have e3 : σ 3 = _ := f3.1 trivial
                have hgd : σ 3 = .bool true := hon
                have hgb := (f3.1 trivial : σ 3 = _).symm.trans hgd
                simp only [Value.bool.injEq] at hgb
                try simp only [decide_eq_true_eq, decide_eq_false_iff_not, Bool.or_eq_true, Bool.and_eq_true, Bool.or_eq_false_iff, Bool.and_eq_false_iff, Bool.not_eq_true', Bool.not_eq_false', Int.not_lt, Int.not_le, ne_eq, Decidable.not_not] at hgb
                exact OpOK.sub (r := [(0, _), (6, _), (7, _), (8, _), (11, _), (12, _), (13, _), (14, _)]) ⟨rfl, rfl, rfl, rfl, rfl, rfl, rfl, rfl, trivial⟩ (by
                  exact OpOK.eq (r_move rfl))
                ), (fun _ _ _ _ _ _ h => h), (FreeR.no _), ?_⟩
            refine ⟨_, false, (fun σ ι w1 hg hd hon => by
                have f3 := hd 3 (by decide) _ rfl
                have e3 : σ 3 = _ := f3.1 trivial
                have hgd : σ 3 = .bool true := hon
                have hgb := (f3.1 trivial : σ 3 = _).symm.trans hgd
                simp only [Value.bool.injEq] at hgb
                try simp only [decide_eq_true_eq, decide_eq_false_iff_not, Bool.or_eq_true, Bool.and_eq_true, Bool.or_eq_false_iff, Bool.and_eq_false_iff, Bool.not_eq_true', Bool.not_eq_false', Int.not_lt, Int.not_le, ne_eq, Decidable.not_not] at hgb
                exact OpOK.sub (r := [(0, _), (6, _), (7, _), (8, _), (11, _), (12, _), (13, _), (14, _)]) ⟨rfl, rfl, rfl, rfl, rfl, rfl, rfl, rfl, trivial⟩ (by
                  exact OpOK.eq (r_move rfl))
                ), (fun _ _ _ _ _ _ h => h), (FreeR.no _), ?_⟩
            refine ⟨_, false, (fun σ ι w1 hg hd hon => by
                have f6 := hd 6 (by decide) _ rfl
                have f7 := hd 7 (by decide) _ rfl
                have f3 := hd 3 (by decide) _ rfl
                have e6 : σ 6 = _ := f6.1 hon
                have e7 : σ 7 = _ := f7.1 hon
                have e3 : σ 3 = _ := f3.1 trivial
                have hgd : σ 3 = .bool true := hon
                have hgb := (f3.1 trivial : σ 3 = _).symm.trans hgd
                simp only [Value.bool.injEq] at hgb
                try simp only [decide_eq_true_eq, decide_eq_false_iff_not, Bool.or_eq_true, Bool.and_eq_true, Bool.or_eq_false_iff, Bool.and_eq_false_iff, Bool.not_eq_true', Bool.not_eq_false', Int.not_lt, Int.not_le, ne_eq, Decidable.not_not] at hgb
                exact OpOK.sub (r := [(78, _), (79, _), (0, _), (6, _), (7, _), (8, _), (11, _), (12, _), (13, _), (14, _)]) ⟨congrArg some e6, congrArg some e7, rfl, rfl, rfl, rfl, rfl, rfl, rfl, rfl, trivial⟩ (by
                  exact OpOK.eq (r_upto (hi := k) Try.underlying23 sz29 rfl rfl rfl (by omega)))
                ), (fun _ _ _ _ _ _ h => h), (FreeR.no _), ?_⟩
            refine ⟨_, true, (fun σ ι w1 hg hd hon => by
                have hN := hN.ofGr ((Gr.refl _).drew.trans hg)
                have hB14 := hB14.gr ((Gr.refl _).drew.trans hg)
                have f5 := hd 5 (by decide) _ rfl
                have f8 := hd 8 (by decide) _ rfl
                have f3 := hd 3 (by decide) _ rfl
                have e5 : σ 5 = _ := f5.1 hon
                have e8 : σ 8 = _ := f8.1 hon
                have e3 : σ 3 = _ := f3.1 trivial
                have hgd : σ 3 = .bool true := hon
                have hgb := (f3.1 trivial : σ 3 = _).symm.trans hgd
                simp only [Value.bool.injEq] at hgb
                try simp only [decide_eq_true_eq, decide_eq_false_iff_not, Bool.or_eq_true, Bool.and_eq_true, Bool.or_eq_false_iff, Bool.and_eq_false_iff, Bool.not_eq_true', Bool.not_eq_false', Int.not_lt, Int.not_le, ne_eq, Decidable.not_not] at hgb
                skip
                exact CallOK.sub (r := [(77, _), (80, _), (0, _), (6, _), (7, _), (8, _), (11, _), (12, _), (13, _), (14, _)]) ⟨congrArg some e5, congrArg some e8, rfl, rfl, rfl, rfl, rfl, rfl, rfl, rfl, trivial⟩ (by
                  exact CallOK.V (enters_of rfl rfl hb16) (rrecords' hN.sat hE3 (hA.take k) rfl hrk))
                ), (fun _ _ _ _ _ _ h => h), (fun _ _ _ _ _ _ h => h), ?_⟩
            refine ⟨_, false, (fun σ ι w1 hg hd hon => by
                have f3 := hd 3 (by decide) _ rfl
                have f9 := hd 9 (by decide) _ rfl
                have e3 : σ 3 = _ := f3.1 trivial
                have ec : σ 3 = _ := f3.1 trivial
                exact OpOK.id (by refine OpOK.and (dc := 75) (dy := 81) (kc := σ 3) (ky := σ 9) ?_ ?_ ec (fun hb => f9.1 (by show σ 3 = _; rw [ec]; exact congrArg Value.bool hb)) <;> rfl)
                ), (fun _ _ _ _ _ _ h => h), (FreeR.no _), ?_⟩
            refine ⟨_, false, (fun σ ι w1 hg hd hon => by
                have f10 := hd 10 (by decide) _ rfl
                have e10 : σ 10 = _ := f10.1 trivial
                exact OpOK.sub (r := [(82, _), (0, _), (6, _), (7, _), (8, _), (11, _), (12, _), (13, _), (14, _)]) ⟨congrArg some e10, rfl, rfl, rfl, rfl, rfl, rfl, rfl, rfl, trivial⟩ (by
                  exact OpOK.eq (r_move rfl))
                ), (fun _ _ _ _ _ _ h => h), (FreeR.no _), ?_⟩
            refine ⟨_, false, (fun σ ι w1 hg hd hon => by
                have f11 := hd 11 (by decide) _ rfl
                have e11 : σ 11 = _ := f11.1 trivial
                have hgd : σ 11 = .bool true := hon
                have hgb := (f11.1 trivial : σ 11 = _).symm.trans hgd
                simp only [Value.bool.injEq] at hgb
                try simp only [decide_eq_true_eq, decide_eq_false_iff_not, Bool.or_eq_true, Bool.and_eq_true, Bool.or_eq_false_iff, Bool.and_eq_false_iff, Bool.not_eq_true', Bool.not_eq_false', Int.not_lt, Int.not_le, ne_eq, Decidable.not_not] at hgb
                exact OpOK.sub (r := [(0, _), (6, _), (7, _), (8, _), (11, _), (12, _), (13, _), (14, _)]) ⟨rfl, rfl, rfl, rfl, rfl, rfl, rfl, rfl, trivial⟩ (by
                  exact OpOK.eq (r_fld fld34_1 rfl))
                ), (fun _ _ _ _ _ _ h => h), (FreeR.no _), ?_⟩
            refine ⟨_, false, (fun σ ι w1 hg hd hon => by
                have hN := hN.ofGr ((Gr.refl _).drew.trans hg)
                have hB14 := hB14.gr ((Gr.refl _).drew.trans hg)
                have f12 := hd 12 (by decide) _ rfl
                have f11 := hd 11 (by decide) _ rfl
                have e12 : σ 12 = _ := f12.1 hon
                have e11 : σ 11 = _ := f11.1 trivial
                have hgd : σ 11 = .bool true := hon
                have hgb := (f11.1 trivial : σ 11 = _).symm.trans hgd
                simp only [Value.bool.injEq] at hgb
                try simp only [decide_eq_true_eq, decide_eq_false_iff_not, Bool.or_eq_true, Bool.and_eq_true, Bool.or_eq_false_iff, Bool.and_eq_false_iff, Bool.not_eq_true', Bool.not_eq_false', Int.not_lt, Int.not_le, ne_eq, Decidable.not_not] at hgb
                exact OpOK.sub (r := [(84, _), (0, _), (6, _), (7, _), (8, _), (11, _), (12, _), (13, _), (14, _)]) ⟨congrArg some e12, rfl, rfl, rfl, rfl, rfl, rfl, rfl, rfl, trivial⟩ (by
                  exact OpOK.eq (r_load sc22 rfl (hB14.cell rfl)))
                ), (fun _ _ _ _ _ _ h => h), (FreeR.no _), ?_⟩
            refine ⟨_, false, (fun σ ι w1 hg hd hon => by
                have f11 := hd 11 (by decide) _ rfl
                have e11 : σ 11 = _ := f11.1 trivial
                have hgd : σ 11 = .bool true := hon
                have hgb := (f11.1 trivial : σ 11 = _).symm.trans hgd
                simp only [Value.bool.injEq] at hgb
                try simp only [decide_eq_true_eq, decide_eq_false_iff_not, Bool.or_eq_true, Bool.and_eq_true, Bool.or_eq_false_iff, Bool.and_eq_false_iff, Bool.not_eq_true', Bool.not_eq_false', Int.not_lt, Int.not_le, ne_eq, Decidable.not_not] at hgb
                exact OpOK.sub (r := [(0, _), (6, _), (7, _), (8, _), (11, _), (12, _), (13, _), (14, _)]) ⟨rfl, rfl, rfl, rfl, rfl, rfl, rfl, rfl, trivial⟩ (by
                  exact OpOK.eq (r_move rfl))
                ), (fun _ _ _ _ _ _ h => h), (FreeR.no _), ?_⟩
            refine ⟨_, false, (fun σ ι w1 hg hd hon => by
                have f11 := hd 11 (by decide) _ rfl
                have e11 : σ 11 = _ := f11.1 trivial
                have hgd : σ 11 = .bool true := hon
                have hgb := (f11.1 trivial : σ 11 = _).symm.trans hgd
                simp only [Value.bool.injEq] at hgb
                try simp only [decide_eq_true_eq, decide_eq_false_iff_not, Bool.or_eq_true, Bool.and_eq_true, Bool.or_eq_false_iff, Bool.and_eq_false_iff, Bool.not_eq_true', Bool.not_eq_false', Int.not_lt, Int.not_le, ne_eq, Decidable.not_not] at hgb
                exact OpOK.sub (r := [(0, _), (6, _), (7, _), (8, _), (11, _), (12, _), (13, _), (14, _)]) ⟨rfl, rfl, rfl, rfl, rfl, rfl, rfl, rfl, trivial⟩ (by
                  exact OpOK.eq (r_move rfl))
                ), (fun _ _ _ _ _ _ h => h), (FreeR.no _), ?_⟩
            refine ⟨_, false, (fun σ ι w1 hg hd hon => by
                have f14 := hd 14 (by decide) _ rfl
                have f15 := hd 15 (by decide) _ rfl
                have f11 := hd 11 (by decide) _ rfl
                have e14 : σ 14 = _ := f14.1 hon
                have e15 : σ 15 = _ := f15.1 hon
                have e11 : σ 11 = _ := f11.1 trivial
                have hgd : σ 11 = .bool true := hon
                have hgb := (f11.1 trivial : σ 11 = _).symm.trans hgd
                simp only [Value.bool.injEq] at hgb
                try simp only [decide_eq_true_eq, decide_eq_false_iff_not, Bool.or_eq_true, Bool.and_eq_true, Bool.or_eq_false_iff, Bool.and_eq_false_iff, Bool.not_eq_true', Bool.not_eq_false', Int.not_lt, Int.not_le, ne_eq, Decidable.not_not] at hgb
                exact OpOK.sub (r := [(86, _), (87, _), (0, _), (6, _), (7, _), (8, _), (11, _), (12, _), (13, _), (14, _)]) ⟨congrArg some e14, congrArg some e15, rfl, rfl, rfl, rfl, rfl, rfl, rfl, rfl, trivial⟩ (by
                  exact OpOK.eq (r_from (lo := lo) Try.underlying22 sz5 rfl rfl rfl (by omega) (by omega)))
                ), (fun _ _ _ _ _ _ h => h), (FreeR.no _), ?_⟩
            refine ⟨_, true, (fun σ ι w1 hg hd hon => by
                have hN := hN.ofGr ((Gr.refl _).drew.trans hg)
                have hB14 := hB14.gr ((Gr.refl _).drew.trans hg)
                have f13 := hd 13 (by decide) _ rfl
                have f16 := hd 16 (by decide) _ rfl
                have f11 := hd 11 (by decide) _ rfl
                have e13 : σ 13 = _ := f13.1 hon
                have e16 : σ 16 = _ := f16.1 hon
                have e11 : σ 11 = _ := f11.1 trivial
                have hgd : σ 11 = .bool true := hon
                have hgb := (f11.1 trivial : σ 11 = _).symm.trans hgd
                simp only [Value.bool.injEq] at hgb
                try simp only [decide_eq_true_eq, decide_eq_false_iff_not, Bool.or_eq_true, Bool.and_eq_true, Bool.or_eq_false_iff, Bool.and_eq_false_iff, Bool.not_eq_true', Bool.not_eq_false', Int.not_lt, Int.not_le, ne_eq, Decidable.not_not] at hgb
                skip
                exact CallOK.sub (r := [(85, _), (88, _), (0, _), (6, _), (7, _), (8, _), (11, _), (12, _), (13, _), (14, _)]) ⟨congrArg some e13, congrArg some e16, rfl, rfl, rfl, rfl, rfl, rfl, rfl, rfl, trivial⟩ (by
                  exact CallOK.V (enters_of rfl rfl hb17) (rsame8' hN.sat hE4 (hEo.off (by omega)) (by simp) (by simp)))
                ), (fun _ _ _ _ _ _ h => h), (fun _ _ _ _ _ _ h => h), ?_⟩
            refine ⟨_, false, (fun σ ι w1 hg hd hon => by
                have f11 := hd 11 (by decide) _ rfl
                have f17 := hd 17 (by decide) _ rfl
                have e11 : σ 11 = _ := f11.1 trivial
                have ec : σ 11 = _ := f11.1 trivial
                exact OpOK.id (by refine OpOK.and (dc := 83) (dy := 89) (kc := σ 11) (ky := σ 17) ?_ ?_ ec (fun hb => f17.1 (by show σ 11 = _; rw [ec]; exact congrArg Value.bool hb)) <;> rfl)
                ), (fun _ _ _ _ _ _ h => h), (FreeR.no _), ?_⟩
            refine ⟨_, false, (fun σ ι w1 hg hd hon => by
                have f18 := hd 18 (by decide) _ rfl
                have e18 : σ 18 = _ := f18.1 trivial
                exact OpOK.sub (r := [(90, _), (0, _), (6, _), (7, _), (8, _), (11, _), (12, _), (13, _), (14, _)]) ⟨congrArg some e18, rfl, rfl, rfl, rfl, rfl, rfl, rfl, rfl, trivial⟩ (by
                  exact OpOK.eq (r_move rfl))
                ), (fun _ _ _ _ _ _ h => h), (FreeR.no _), ?_⟩
            refine ⟨_, false, (fun σ ι w1 hg hd hon => by
                have f19 := hd 19 (by decide) _ rfl
                have e19 : σ 19 = _ := f19.1 trivial
                have hgd : σ 19 = .bool true := hon
                have hgb := (f19.1 trivial : σ 19 = _).symm.trans hgd
                simp only [Value.bool.injEq] at hgb
                try simp only [decide_eq_true_eq, decide_eq_false_iff_not, Bool.or_eq_true, Bool.and_eq_true, Bool.or_eq_false_iff, Bool.and_eq_false_iff, Bool.not_eq_true', Bool.not_eq_false', Int.not_lt, Int.not_le, ne_eq, Decidable.not_not] at hgb
                exact OpOK.sub (r := [(0, _), (6, _), (7, _), (8, _), (11, _), (12, _), (13, _), (14, _)]) ⟨rfl, rfl, rfl, rfl, rfl, rfl, rfl, rfl, trivial⟩ (by
                  exact OpOK.eq (r_move rfl))
                ), (fun _ _ _ _ _ _ h => h), (FreeR.no _), ?_⟩
            refine ⟨_, true, (fun σ ι w1 hg hd hon => by
                have hN := hN.ofGr ((Gr.refl _).drew.trans hg)
                have hB14 := hB14.gr ((Gr.refl _).drew.trans hg)
                have f20 := hd 20 (by decide) _ rfl
                have f19 := hd 19 (by decide) _ rfl
                have e20 : σ 20 = _ := f20.1 hon
                have e19 : σ 19 = _ := f19.1 trivial
                have hgd : σ 19 = .bool true := hon
                have hgb := (f19.1 trivial : σ 19 = _).symm.trans hgd
                simp only [Value.bool.injEq] at hgb
                try simp only [decide_eq_true_eq, decide_eq_false_iff_not, Bool.or_eq_true, Bool.and_eq_true, Bool.or_eq_false_iff, Bool.and_eq_false_iff, Bool.not_eq_true', Bool.not_eq_false', Int.not_lt, Int.not_le, ne_eq, Decidable.not_not] at hgb
                skip
                exact CallOK.sub (r := [(92, _), (0, _), (6, _), (7, _), (8, _), (11, _), (12, _), (13, _), (14, _)]) ⟨congrArg some e20, rfl, rfl, rfl, rfl, rfl, rfl, rfl, rfl, trivial⟩ (by
                  exact CallOK.V (enters_of rfl rfl hb18) (jwhole' hN.sat hEo rfl (by omega) (by omega)))
                ), (fun _ _ _ _ _ _ h => h), (fun _ _ _ _ _ _ h => h), ?_⟩
            refine ⟨_, false, (fun σ ι w1 hg hd hon => by
                have f19 := hd 19 (by decide) _ rfl
                have e19 : σ 19 = _ := f19.1 trivial
                have hgd : σ 19 = .bool true := hon
                have hgb := (f19.1 trivial : σ 19 = _).symm.trans hgd
                simp only [Value.bool.injEq] at hgb
                try simp only [decide_eq_true_eq, decide_eq_false_iff_not, Bool.or_eq_true, Bool.and_eq_true, Bool.or_eq_false_iff, Bool.and_eq_false_iff, Bool.not_eq_true', Bool.not_eq_false', Int.not_lt, Int.not_le, ne_eq, Decidable.not_not] at hgb
                exact OpOK.sub (r := [(0, _), (6, _), (7, _), (8, _), (11, _), (12, _), (13, _), (14, _)]) ⟨rfl, rfl, rfl, rfl, rfl, rfl, rfl, rfl, trivial⟩ (by
                  exact OpOK.eq (r_move rfl))
                ), (fun _ _ _ _ _ _ h => h), (FreeR.no _), ?_⟩
            refine ⟨_, false, (fun σ ι w1 hg hd hon => by
                have f19 := hd 19 (by decide) _ rfl
                have e19 : σ 19 = _ := f19.1 trivial
                have hgd : σ 19 = .bool true := hon
                have hgb := (f19.1 trivial : σ 19 = _).symm.trans hgd
                simp only [Value.bool.injEq] at hgb
                try simp only [decide_eq_true_eq, decide_eq_false_iff_not, Bool.or_eq_true, Bool.and_eq_true, Bool.or_eq_false_iff, Bool.and_eq_false_iff, Bool.not_eq_true', Bool.not_eq_false', Int.not_lt, Int.not_le, ne_eq, Decidable.not_not] at hgb
                exact OpOK.sub (r := [(0, _), (6, _), (7, _), (8, _), (11, _), (12, _), (13, _), (14, _)]) ⟨rfl, rfl, rfl, rfl, rfl, rfl, rfl, rfl, trivial⟩ (by
                  exact OpOK.eq (r_move rfl))
                ), (fun _ _ _ _ _ _ h => h), (FreeR.no _), ?_⟩
            refine ⟨_, false, (fun σ ι w1 hg hd hon => by
                have f22 := hd 22 (by decide) _ rfl
                have f23 := hd 23 (by decide) _ rfl
                have f19 := hd 19 (by decide) _ rfl
                have e22 : σ 22 = _ := f22.1 hon
                have e23 : σ 23 = _ := f23.1 hon
                have e19 : σ 19 = _ := f19.1 trivial
                have hgd : σ 19 = .bool true := hon
                have hgb := (f19.1 trivial : σ 19 = _).symm.trans hgd
                simp only [Value.bool.injEq] at hgb
                try simp only [decide_eq_true_eq, decide_eq_false_iff_not, Bool.or_eq_true, Bool.and_eq_true, Bool.or_eq_false_iff, Bool.and_eq_false_iff, Bool.not_eq_true', Bool.not_eq_false', Int.not_lt, Int.not_le, ne_eq, Decidable.not_not] at hgb
                exact OpOK.sub (r := [(94, _), (95, _), (0, _), (6, _), (7, _), (8, _), (11, _), (12, _), (13, _), (14, _)]) ⟨congrArg some e22, congrArg some e23, rfl, rfl, rfl, rfl, rfl, rfl, rfl, rfl, trivial⟩ (by
                  exact OpOK.eq (r_upto (hi := lo) Try.underlying22 sz5 rfl rfl rfl (by omega)))
                ), (fun _ _ _ _ _ _ h => h), (FreeR.no _), ?_⟩
            refine ⟨_, true, (fun σ ι w1 hg hd hon => by
                have hN := hN.ofGr ((Gr.refl _).drew.trans hg)
                have hB14 := hB14.gr ((Gr.refl _).drew.trans hg)
                have f21 := hd 21 (by decide) _ rfl
                have f24 := hd 24 (by decide) _ rfl
                have f19 := hd 19 (by decide) _ rfl
                have e21 : σ 21 = _ := f21.1 hon
                have e24 : σ 24 = _ := f24.1 hon
                have e19 : σ 19 = _ := f19.1 trivial
                have hgd : σ 19 = .bool true := hon
                have hgb := (f19.1 trivial : σ 19 = _).symm.trans hgd
                simp only [Value.bool.injEq] at hgb
                try simp only [decide_eq_true_eq, decide_eq_false_iff_not, Bool.or_eq_true, Bool.and_eq_true, Bool.or_eq_false_iff, Bool.and_eq_false_iff, Bool.not_eq_true', Bool.not_eq_false', Int.not_lt, Int.not_le, ne_eq, Decidable.not_not] at hgb
                skip
                exact CallOK.sub (r := [(93, _), (96, _), (0, _), (6, _), (7, _), (8, _), (11, _), (12, _), (13, _), (14, _)]) ⟨congrArg some e21, congrArg some e24, rfl, rfl, rfl, rfl, rfl, rfl, rfl, rfl, trivial⟩ (by
                  exact CallOK.V (enters_of rfl rfl hb17) (rsame8' (l := pl.take lo) (m := jl.take lo) hN.sat (hEo.take lo) (hE1.take lo) (by rw [hjd]; simp; omega) (by simp; omega)))
                ), (fun _ _ _ _ _ _ h => h), (fun _ _ _ _ _ _ h => h), ?_⟩
            refine ⟨_, false, (fun σ ι w1 hg hd hon => by
                have f19 := hd 19 (by decide) _ rfl
                have f25 := hd 25 (by decide) _ rfl
                have e19 : σ 19 = _ := f19.1 trivial
                have ec : σ 19 = _ := f19.1 trivial
                exact OpOK.id (by refine OpOK.and (dc := 91) (dy := 97) (kc := σ 19) (ky := σ 25) ?_ ?_ ec (fun hb => f25.1 (by show σ 19 = _; rw [ec]; exact congrArg Value.bool hb)) <;> rfl)
                ), (fun _ _ _ _ _ _ h => h), (FreeR.no _), ?_⟩
            intro σ ι a60 w13 hgw13 H81 hd hap
            skip
            have hN0 := hN
            have hN := hN.ofGr ((Gr.refl _).drew.trans hgw13)
            replace hB14 := hB14.gr ((Gr.refl _).drew.trans hgw13)
            have e26 : σ 26 = _ := (hd 26 (by decide) _ rfl).1 trivial
            replace H81 := H81.sub (r := [(98, _), (0, _), (6, _), (7, _), (8, _), (11, _), (12, _), (13, _), (14, _)]) ⟨congrArg some e26, rfl, rfl, rfl, rfl, rfl, rfl, rfl, rfl, trivial⟩
            clear hd
            replace H81 := H81.known (t := 98) (b := true) rfl (by rw [hpt]; simp; omega)
            clear hap
            refine wl1 H81 (r_move rfl) rfl rfl rfl rfl fun a61 H82 => ?_
            clear H81 a60
            refine wl_on (d := 99) H82 rfl rfl rfl ?_
            refine wl1 H82 (r_move rfl) rfl rfl rfl rfl fun a62 H83 => ?_
            clear H82 a61
            refine wl_on (d := 99) H83 rfl rfl rfl ?_
            refine wlc  H83 rfl rfl hb14 rfl (lput (l := pl) (R := none) (cr := 0) (rec := []) hN.sat hEo (by omega) (by omega) (Els.nil _ _ _) (Nat.le_refl _)) fun v w14 hR a63 H84 => ?_
            clear H83 a62
            obtain ⟨J14, nw14, ⟨A5, c5, rfl, hc5, hE5⟩⟩ := hR
            replace hA := hA.up nw14.le
            replace hE1 := hE1.up nw14.le
            replace hE2 := hE2.up nw14.le
            replace hEo := hEo.up nw14.le
            replace hE3 := hE3.up nw14.le
            replace hE4 := hE4.up nw14.le
            replace hB14 := hB14.next nw14
            have hN := hN.trans nw14
            have hpe : putErr pl [] = 60 := by unfold putErr; rw [hjd, hln, if_neg (by simp), if_pos (by show lo < jl.length; omega)]
            rw [hpe] at H84
            refine wl_on (d := 99) H84 rfl rfl rfl ?_
            refine wl1 H84 (r_fieldv 1 rfl rfl (by kernel_rfl)) rfl rfl rfl rfl fun a64 H85 => ?_
            clear H84 a63
            refine wl_on (d := 99) H85 rfl rfl rfl ?_
            refine wl1 H85 (r_eql rfl rfl) rfl rfl rfl rfl fun a65 H86 => ?_
            clear H85 a64
            replace H86 := H86.known (t := 103) (b := true) rfl (by simp)
            refine wl1 H86 (r_pick_t rfl rfl) rfl rfl rfl rfl fun a66 H87 => ?_
            clear H86 a65
            refine wl1 H87 (r_move rfl) rfl rfl rfl rfl fun a67 H88 => ?_
            clear H87 a66
            refine wl_on (d := 105) H88 rfl rfl rfl ?_
            refine wl1 H88 (r_move rfl) rfl rfl rfl rfl fun a68 H89 => ?_
            clear H88 a67
            refine wl1 H89 (r_pick_t rfl rfl) rfl rfl rfl rfl fun a69 H90 => ?_
            clear H89 a68
            refine wl1 H90 (r_assign rfl) rfl rfl rfl rfl fun a70 H91 => ?_
            clear H90 a69
            refine wl_end ?_
            refine th_n ?_
            refine wpIn_ret ?_
            refine fin_r H91 (res1 rfl H91 rfl) ?_
            exact ⟨rfl, hN.gr⟩
        ·
          clear H46
          try simp only [decide_eq_true_eq, decide_eq_false_iff_not, Bool.or_eq_true, Bool.and_eq_true, Bool.or_eq_false_iff, Bool.and_eq_false_iff, Bool.not_eq_true', Bool.not_eq_false', Int.not_lt, Int.not_le, ne_eq, Decidable.not_not] at hg11_4
          have hkx : k < rs.length → n0 < lenR (rs.take (k + 1)) := fun h => by rw [jends_length] at hg11_4; omega
          have hkr2 : k < rs.length := by
            rcases Nat.lt_or_ge k rs.length with h | h
            · exact h
            · rw [List.take_of_length_le h] at hk1; omega
          have hkx2 := hkx hkr2
          have hlk := lenR_take rs k
          have hrk : (rs.take k).length = k := by simp; omega
          obtain ⟨lo, hlo⟩ : ∃ q, q = lenR (rs.take k) := ⟨_, rfl⟩
          have hx8 := xor8 (hE1.inK jl[n0] (List.getElem_mem _)) hy
          obtain ⟨b, hb⟩ : ∃ b, b = ibits .xor .u8 jl[n0] y := ⟨_, rfl⟩
          rw [← hb] at hx8
          have hjd : jall (jl.set n0 b) 0 = ⟨rs.take k, lo, lastK 0 (rs.take k)⟩ := by
            rw [hlo, hjl]
            refine jall_damage hgd hkr2 hk1 hkx2 hx8.1 (fun e => hx8.2 (by omega) ?_)
            rw [← hjl, List.getElem?_eq_getElem hn1] at e
            injection e with e
            exact e.symm
          rw [← hlo] at hk1 hlk H47
          obtain ⟨pl, hpl⟩ : ∃ p, p = jl.set n0 b := ⟨_, rfl⟩
          rw [← hpl] at hjd
          have hln : pl.length = jl.length := by rw [hpl]; simp
          have hpt : pl.take lo = jl.take lo := by rw [hpl, List.take_set, List.set_eq_of_length_le (by simp; omega)]
          refine wl_off (d := 44) H47 rfl rfl rfl rfl rfl rfl fun a37 H92 => ?_
          clear H47 a36
          refine wl_off (d := 44) H92 rfl rfl rfl rfl rfl rfl fun a38 H93 => ?_
          clear H92 a37
          refine wl_off (d := 44) H93 rfl rfl rfl rfl rfl rfl fun a39 H94 => ?_
          clear H93 a38
          refine wl_off (d := 44) H94 rfl rfl rfl rfl rfl rfl fun a40 H95 => ?_
          clear H94 a39
          refine wl_off (d := 44) H95 rfl rfl rfl rfl rfl rfl fun a41 H96 => ?_
          clear H95 a40
          refine wl_off (d := 44) H96 rfl rfl rfl rfl rfl rfl fun a42 H97 => ?_
          clear H96 a41
          refine wl1 H97 (r_pick_f rfl rfl) rfl rfl rfl rfl fun a43 H98 => ?_
          clear H97 a42
          refine wl_end ?_
          refine th_n ?_
          refine w_ff H98 rfl rfl ?_
          refine wpIn_exit ?_
          refine th_x ?_
          refine th_x ?_
          refine bl_hit ?_
          refine th_n ?_
          refine wpIn_seq ?_
          refine w_reg ?_
          refine s_lit1 (cs := []) H98 Try.underlying22 sz5 zv5 rfl rfl rfl (by simp [Value.oneCell']) rfl hN fun w15 l58 K15 hKl58 hlel58 hN nw15 hgel58 a44 H99 => ?_
          clear H98 a43
          replace hA := hA.up nw15.le
          replace hE1 := hE1.up nw15.le
          replace hE2 := hE2.up nw15.le
          refine wl1 H99 (r_move rfl) rfl rfl rfl rfl fun a45 H100 => ?_
          clear H99 a44
          refine s_app (d := kInt .u8) (B := w.heap.size) H100 rfl rfl Try.underlying22 nf5 rfl (by decide) (by decide) rfl hN (.inr ⟨_, rfl, Els.nil _ _ _⟩) hE1 rfl (Nat.le_refl _) hN.gr.size (by simp; omega) fun vw16 w16 hO hOO hOO2 kw16 hN a46 H101 => ?_
          clear H100 a45
          obtain ⟨go, co, cs, rest, rfl, hco, _, hgo, hR, hBo⟩ := (hOO (by omega)).box (by simp; omega)
          clear hO hOO hOO2
          obtain ⟨rfl, _⟩ := hR.ints
          clear hR
          rw [List.nil_append] at hBo H101 hco
          refine wl1 H101 (r_assign rfl) rfl rfl rfl rfl fun a47 H102 => ?_
          clear H101 a46
          refine wl_end ?_
          refine th_n ?_
          refine wpIn_seq ?_
          refine w_reg ?_
          refine wl1 H102 (r_move rfl) rfl rfl rfl rfl fun a48 H103 => ?_
          clear H102 a47
          refine wl1 H103 (r_move rfl) rfl rfl rfl rfl fun a49 H104 => ?_
          clear H103 a48
          refine wl1 H104 (r_move rfl) rfl rfl rfl rfl fun a50 H105 => ?_
          clear H104 a49
          refine wl1 H105 (r_move rfl) rfl rfl rfl rfl fun a51 H106 => ?_
          clear H105 a50
          refine wl1 H106 (r_idx Try.underlying22 sz5 rfl rfl (i := n0) rfl (by omega)) rfl rfl rfl rfl fun a52 H107 => ?_
          clear H106 a51
          refine wl1 H107 (r_load sc5 rfl (hBo.cell (own_elem hn1))) rfl rfl rfl rfl fun a53 H108 => ?_
          clear H107 a52
          refine wl1 H108 (r_move rfl) rfl rfl rfl rfl fun a54 H109 => ?_
          clear H108 a53
          refine wl1 H109 (r_xor rfl rfl) rfl rfl rfl rfl fun a55 H110 => ?_
          clear H109 a54
          rw [← hb] at H110
          refine wl1 H110 (r_idx Try.underlying22 sz5 rfl rfl (i := n0) rfl (by omega)) rfl rfl rfl rfl fun a56 H111 => ?_
          clear H110 a55
          refine s_store H111 sz5 rfl rfl rfl hN hBo (by simp; omega) hgo fun w17 hN hBo ew17 H112 => ?_
          clear H111
          rw [own_set hn1, ← hpl] at hBo
          clear ew17
          refine wl_end ?_
          refine th_n ?_
          refine wpIn_seq ?_
          refine w_reg ?_
          refine wl1 H112 (r_move rfl) rfl rfl rfl rfl fun a57 H113 => ?_
          clear H112 a56
          rw [show jl.length = pl.length from hln.symm] at H113
          obtain ⟨Kz17, hN, hEo, hleKz17, hsmKz17⟩ := hN.freezeRow hBo (Row.nums (by rw [hpl]; exact own_setIn hE1.inK hx8.1)) hgo (by omega)
          replace hA := hA.up hleKz17
          replace hE1 := hE1.up hleKz17
          replace hE2 := hE2.up hleKz17
          refine wlc  H113 rfl rfl hb12 rfl (lread (l := pl) hN.sat hEo (by omega) (by omega)) fun v w19 hR a58 H114 => ?_
          clear H113 a57
          obtain ⟨J19, nw19, ⟨A3, c3, A4, c4, rfl, hc3, hE3, hc4, hE4⟩⟩ := hR
          replace hA := hA.up nw19.le
          replace hE1 := hE1.up nw19.le
          replace hE2 := hE2.up nw19.le
          replace hEo := hEo.up nw19.le
          have hN := hN.trans nw19
          simp only [hjd] at H114 hE3 hE4 hc3 hc4
          refine s_alloc H114 zv34 rfl hN fun w20 b14 hN gw20 hB14 hgeb14 heb14 a59 H115 => ?_
          clear H114 a58
          replace hB14 : Box _ _ _ [.slice none 0 0, .slice none 0 0, .int .i64 0, .int .i64 0, .int .u64 0] 34 := hB14
          refine s_storeA (vs := [_, _, _, _, _]) H115 sz34 (by simp) (by simp [Value.oneCell']) rfl rfl hN hB14 (by simp) hgeb14 fun w21 hN hB14 ew21 H116 => ?_
          clear H115
          simp only [Nat.zero_add, Nat.add_zero, Nat.reduceAdd, Nat.reduceMul, List.set_cons_zero, List.set_cons_succ, spliceL] at hB14
          clear ew21
          refine wl_end ?_
          refine th_n ?_
          refine wpIn_seq ?_
          have hS0 := hN.sat
          have hNsz17 := hN.gr.size
          refine w_drawE (m := 27) (l0 := [(0, _), (6, _), (7, _), (8, _), (11, _), (12, _), (13, _), (14, _)]) hfol H116 ⟨rfl, rfl, rfl, rfl, rfl, rfl, rfl, rfl, trivial⟩ (by kernel_rfl) ?_
          refine ⟨_, false, (fun σ ι w1 hg hd hon => by
              exact OpOK.sub (r := [(0, _), (6, _), (7, _), (8, _), (11, _), (12, _), (13, _), (14, _)]) ⟨rfl, rfl, rfl, rfl, rfl, rfl, rfl, rfl, trivial⟩ (by
                exact OpOK.eq (r_fld fld34_2 rfl))
              ), (fun _ _ _ _ _ _ h => h), (FreeR.no _), ?_⟩
          refine ⟨_, false, (fun σ ι w1 hg hd hon => by
              have hN := hN.ofGr ((Gr.refl _).drew.trans hg)
              have hB14 := hB14.gr ((Gr.refl _).drew.trans hg)
              have f0 := hd 0 (by decide) _ rfl
              have e0 : σ 0 = _ := f0.1 trivial
              exact OpOK.sub (r := [(72, _), (0, _), (6, _), (7, _), (8, _), (11, _), (12, _), (13, _), (14, _)]) ⟨congrArg some e0, rfl, rfl, rfl, rfl, rfl, rfl, rfl, rfl, trivial⟩ (by
                exact OpOK.eq (r_load sc31 rfl (hB14.cell rfl)))
              ), (fun _ _ _ _ _ _ h => h), (FreeR.no _), ?_⟩
          refine ⟨_, false, (fun σ ι w1 hg hd hon => by
              have f1 := hd 1 (by decide) _ rfl
              have e1 : σ 1 = _ := f1.1 trivial
              exact OpOK.sub (r := [(73, _), (0, _), (6, _), (7, _), (8, _), (11, _), (12, _), (13, _), (14, _)]) ⟨congrArg some e1, rfl, rfl, rfl, rfl, rfl, rfl, rfl, rfl, trivial⟩ (by
                exact OpOK.eq (r_eql rfl rfl))
              ), (fun _ _ _ _ _ _ h => h), (FreeR.no _), ?_⟩
          refine ⟨_, false, (fun σ ι w1 hg hd hon => by
              have f2 := hd 2 (by decide) _ rfl
              have e2 : σ 2 = _ := f2.1 trivial
              exact OpOK.sub (r := [(74, _), (0, _), (6, _), (7, _), (8, _), (11, _), (12, _), (13, _), (14, _)]) ⟨congrArg some e2, rfl, rfl, rfl, rfl, rfl, rfl, rfl, rfl, trivial⟩ (by
                exact OpOK.eq (r_move rfl))
              ), (fun _ _ _ _ _ _ h => h), (FreeR.no _), ?_⟩
          refine ⟨_, false, (fun σ ι w1 hg hd hon => by
              have f3 := hd 3 (by decide) _ rfl
              have e3 : σ 3 = _ := f3.1 trivial
              have hgd : σ 3 = .bool true := hon
              have hgb := (f3.1 trivial : σ 3 = _).symm.trans hgd
              simp only [Value.bool.injEq] at hgb
              try simp only [decide_eq_true_eq, decide_eq_false_iff_not, Bool.or_eq_true, Bool.and_eq_true, Bool.or_eq_false_iff, Bool.and_eq_false_iff, Bool.not_eq_true', Bool.not_eq_false', Int.not_lt, Int.not_le, ne_eq, Decidable.not_not] at hgb
              exact OpOK.sub (r := [(0, _), (6, _), (7, _), (8, _), (11, _), (12, _), (13, _), (14, _)]) ⟨rfl, rfl, rfl, rfl, rfl, rfl, rfl, rfl, trivial⟩ (by
                exact OpOK.eq (r_fld fld34_0 rfl))
              ), (fun _ _ _ _ _ _ h => h), (FreeR.no _), ?_⟩
          refine ⟨_, false, (fun σ ι w1 hg hd hon => by
              have hN := hN.ofGr ((Gr.refl _).drew.trans hg)
              have hB14 := hB14.gr ((Gr.refl _).drew.trans hg)
              have f4 := hd 4 (by decide) _ rfl
              have f3 := hd 3 (by decide) _ rfl
              have e4 : σ 4 = _ := f4.1 hon
              have e3 : σ 3 = _ := f3.1 trivial
              have hgd : σ 3 = .bool true := hon
              have hgb := (f3.1 trivial : σ 3 = _).symm.trans hgd
              simp only [Value.bool.injEq] at hgb
              try simp only [decide_eq_true_eq, decide_eq_false_iff_not, Bool.or_eq_true, Bool.and_eq_true, Bool.or_eq_false_iff, Bool.and_eq_false_iff, Bool.not_eq_true', Bool.not_eq_false', Int.not_lt, Int.not_le, ne_eq, Decidable.not_not] at hgb
              exact OpOK.sub (r := [(76, _), (0, _), (6, _), (7, _), (8, _), (11, _), (12, _), (13, _), (14, _)]) ⟨congrArg some e4, rfl, rfl, rfl, rfl, rfl, rfl, rfl, rfl, trivial⟩ (by
                exact OpOK.eq (r_load sc23 rfl (hB14.cell rfl)))
              ), (fun _ _ _ _ _ _ h => h), (FreeR.no _), ?_⟩
          refine ⟨_, false, (fun σ ι w1 hg hd hon => by
              have f3 := hd 3 (by decide) _ rfl
              have e3 : σ 3 = _ := f3.1 trivial
              have hgd : σ 3 = .bool true := hon
              have hgb := (f3.1 trivial : σ 3 = _).symm.trans hgd
              simp only [Value.bool.injEq] at hgb
              try simp only [decide_eq_true_eq, decide_eq_false_iff_not, Bool.or_eq_true, Bool.and_eq_true, Bool.or_eq_false_iff, Bool.and_eq_false_iff, Bool.not_eq_true', Bool.not_eq_false', Int.not_lt, Int.not_le, ne_eq, Decidable.not_not] at hgb
              exact OpOK.sub (r := [(0, _), (6, _), (7, _), (8, _), (11, _), (12, _), (13, _), (14, _)]) ⟨rfl, rfl, rfl, rfl, rfl, rfl, rfl, rfl, trivial⟩ (by
                exact OpOK.eq (r_move rfl))
              ), (fun _ _ _ _ _ _ h => h), (FreeR.no _), ?_⟩
          refine ⟨_, false, (fun σ ι w1 hg hd hon => by
              have f3 := hd 3 (by decide) _ rfl
              have e3 : σ 3 = _ := f3.1 trivial
              have hgd : σ 3 = .bool true := hon
              have hgb := (f3.1 trivial : σ 3 = _).symm.trans hgd
              simp only [Value.bool.injEq] at hgb
              try simp only [decide_eq_true_eq, decide_eq_false_iff_not, Bool.or_eq_true, Bool.and_eq_true, Bool.or_eq_false_iff, Bool.and_eq_false_iff, Bool.not_eq_true', Bool.not_eq_false', Int.not_lt, Int.not_le, ne_eq, Decidable.not_not] at hgb
              exact OpOK.sub (r := [(0, _), (6, _), (7, _), (8, _), (11, _), (12, _), (13, _), (14, _)]) ⟨rfl, rfl, rfl, rfl, rfl, rfl, rfl, rfl, trivial⟩ (by
                exact OpOK.eq (r_move rfl))
              ), (fun _ _ _ _ _ _ h => h), (FreeR.no _), ?_⟩
          refine ⟨_, false, (fun σ ι w1 hg hd hon => by
              have f6 := hd 6 (by decide) _ rfl
              have f7 := hd 7 (by decide) _ rfl
              have f3 := hd 3 (by decide) _ rfl
              have e6 : σ 6 = _ := f6.1 hon
              have e7 : σ 7 = _ := f7.1 hon
              have e3 : σ 3 = _ := f3.1 trivial
              have hgd : σ 3 = .bool true := hon
              have hgb := (f3.1 trivial : σ 3 = _).symm.trans hgd
              simp only [Value.bool.injEq] at hgb
              try simp only [decide_eq_true_eq, decide_eq_false_iff_not, Bool.or_eq_true, Bool.and_eq_true, Bool.or_eq_false_iff, Bool.and_eq_false_iff, Bool.not_eq_true', Bool.not_eq_false', Int.not_lt, Int.not_le, ne_eq, Decidable.not_not] at hgb
              exact OpOK.sub (r := [(78, _), (79, _), (0, _), (6, _), (7, _), (8, _), (11, _), (12, _), (13, _), (14, _)]) ⟨congrArg some e6, congrArg some e7, rfl, rfl, rfl, rfl, rfl, rfl, rfl, rfl, trivial⟩ (by
                exact OpOK.eq (r_upto (hi := k) Try.underlying23 sz29 rfl rfl rfl (by omega)))
              ), (fun _ _ _ _ _ _ h => h), (FreeR.no _), ?_⟩
          refine ⟨_, true, (fun σ ι w1 hg hd hon => by
              have hN := hN.ofGr ((Gr.refl _).drew.trans hg)
              have hB14 := hB14.gr ((Gr.refl _).drew.trans hg)
              have f5 := hd 5 (by decide) _ rfl
              have f8 := hd 8 (by decide) _ rfl
              have f3 := hd 3 (by decide) _ rfl
              have e5 : σ 5 = _ := f5.1 hon
              have e8 : σ 8 = _ := f8.1 hon
              have e3 : σ 3 = _ := f3.1 trivial
              have hgd : σ 3 = .bool true := hon
              have hgb := (f3.1 trivial : σ 3 = _).symm.trans hgd
              simp only [Value.bool.injEq] at hgb
              try simp only [decide_eq_true_eq, decide_eq_false_iff_not, Bool.or_eq_true, Bool.and_eq_true, Bool.or_eq_false_iff, Bool.and_eq_false_iff, Bool.not_eq_true', Bool.not_eq_false', Int.not_lt, Int.not_le, ne_eq, Decidable.not_not] at hgb
              skip
              exact CallOK.sub (r := [(77, _), (80, _), (0, _), (6, _), (7, _), (8, _), (11, _), (12, _), (13, _), (14, _)]) ⟨congrArg some e5, congrArg some e8, rfl, rfl, rfl, rfl, rfl, rfl, rfl, rfl, trivial⟩ (by
                exact CallOK.V (enters_of rfl rfl hb16) (rrecords' hN.sat hE3 (hA.take k) rfl hrk))
              ), (fun _ _ _ _ _ _ h => h), (fun _ _ _ _ _ _ h => h), ?_⟩
          refine ⟨_, false, (fun σ ι w1 hg hd hon => by
              have f3 := hd 3 (by decide) _ rfl
              have f9 := hd 9 (by decide) _ rfl
              have e3 : σ 3 = _ := f3.1 trivial
              have ec : σ 3 = _ := f3.1 trivial
              exact OpOK.id (by refine OpOK.and (dc := 75) (dy := 81) (kc := σ 3) (ky := σ 9) ?_ ?_ ec (fun hb => f9.1 (by show σ 3 = _; rw [ec]; exact congrArg Value.bool hb)) <;> rfl)
              ), (fun _ _ _ _ _ _ h => h), (FreeR.no _), ?_⟩
          refine ⟨_, false, (fun σ ι w1 hg hd hon => by
              have f10 := hd 10 (by decide) _ rfl
              have e10 : σ 10 = _ := f10.1 trivial
              exact OpOK.sub (r := [(82, _), (0, _), (6, _), (7, _), (8, _), (11, _), (12, _), (13, _), (14, _)]) ⟨congrArg some e10, rfl, rfl, rfl, rfl, rfl, rfl, rfl, rfl, trivial⟩ (by
                exact OpOK.eq (r_move rfl))
              ), (fun _ _ _ _ _ _ h => h), (FreeR.no _), ?_⟩
          refine ⟨_, false, (fun σ ι w1 hg hd hon => by
              have f11 := hd 11 (by decide) _ rfl
              have e11 : σ 11 = _ := f11.1 trivial
              have hgd : σ 11 = .bool true := hon
              have hgb := (f11.1 trivial : σ 11 = _).symm.trans hgd
              simp only [Value.bool.injEq] at hgb
              try simp only [decide_eq_true_eq, decide_eq_false_iff_not, Bool.or_eq_true, Bool.and_eq_true, Bool.or_eq_false_iff, Bool.and_eq_false_iff, Bool.not_eq_true', Bool.not_eq_false', Int.not_lt, Int.not_le, ne_eq, Decidable.not_not] at hgb
              exact OpOK.sub (r := [(0, _), (6, _), (7, _), (8, _), (11, _), (12, _), (13, _), (14, _)]) ⟨rfl, rfl, rfl, rfl, rfl, rfl, rfl, rfl, trivial⟩ (by
                exact OpOK.eq (r_fld fld34_1 rfl))
              ), (fun _ _ _ _ _ _ h => h), (FreeR.no _), ?_⟩
          refine ⟨_, false, (fun σ ι w1 hg hd hon => by
              have hN := hN.ofGr ((Gr.refl _).drew.trans hg)
              have hB14 := hB14.gr ((Gr.refl _).drew.trans hg)
              have f12 := hd 12 (by decide) _ rfl
              have f11 := hd 11 (by decide) _ rfl
              have e12 : σ 12 = _ := f12.1 hon
              have e11 : σ 11 = _ := f11.1 trivial
              have hgd : σ 11 = .bool true := hon
              have hgb := (f11.1 trivial : σ 11 = _).symm.trans hgd
              simp only [Value.bool.injEq] at hgb
              try simp only [decide_eq_true_eq, decide_eq_false_iff_not, Bool.or_eq_true, Bool.and_eq_true, Bool.or_eq_false_iff, Bool.and_eq_false_iff, Bool.not_eq_true', Bool.not_eq_false', Int.not_lt, Int.not_le, ne_eq, Decidable.not_not] at hgb
              exact OpOK.sub (r := [(84, _), (0, _), (6, _), (7, _), (8, _), (11, _), (12, _), (13, _), (14, _)]) ⟨congrArg some e12, rfl, rfl, rfl, rfl, rfl, rfl, rfl, rfl, trivial⟩ (by
                exact OpOK.eq (r_load sc22 rfl (hB14.cell rfl)))
              ), (fun _ _ _ _ _ _ h => h), (FreeR.no _), ?_⟩
          refine ⟨_, false, (fun σ ι w1 hg hd hon => by
              have f11 := hd 11 (by decide) _ rfl
              have e11 : σ 11 = _ := f11.1 trivial
              have hgd : σ 11 = .bool true := hon
              have hgb := (f11.1 trivial : σ 11 = _).symm.trans hgd
              simp only [Value.bool.injEq] at hgb
              try simp only [decide_eq_true_eq, decide_eq_false_iff_not, Bool.or_eq_true, Bool.and_eq_true, Bool.or_eq_false_iff, Bool.and_eq_false_iff, Bool.not_eq_true', Bool.not_eq_false', Int.not_lt, Int.not_le, ne_eq, Decidable.not_not] at hgb
              exact OpOK.sub (r := [(0, _), (6, _), (7, _), (8, _), (11, _), (12, _), (13, _), (14, _)]) ⟨rfl, rfl, rfl, rfl, rfl, rfl, rfl, rfl, trivial⟩ (by
                exact OpOK.eq (r_move rfl))
              ), (fun _ _ _ _ _ _ h => h), (FreeR.no _), ?_⟩
          refine ⟨_, false, (fun σ ι w1 hg hd hon => by
              have f11 := hd 11 (by decide) _ rfl
              have e11 : σ 11 = _ := f11.1 trivial
              have hgd : σ 11 = .bool true := hon
              have hgb := (f11.1 trivial : σ 11 = _).symm.trans hgd
              simp only [Value.bool.injEq] at hgb
              try simp only [decide_eq_true_eq, decide_eq_false_iff_not, Bool.or_eq_true, Bool.and_eq_true, Bool.or_eq_false_iff, Bool.and_eq_false_iff, Bool.not_eq_true', Bool.not_eq_false', Int.not_lt, Int.not_le, ne_eq, Decidable.not_not] at hgb
              exact OpOK.sub (r := [(0, _), (6, _), (7, _), (8, _), (11, _), (12, _), (13, _), (14, _)]) ⟨rfl, rfl, rfl, rfl, rfl, rfl, rfl, rfl, trivial⟩ (by
                exact OpOK.eq (r_move rfl))
              ), (fun _ _ _ _ _ _ h => h), (FreeR.no _), ?_⟩
          refine ⟨_, false, (fun σ ι w1 hg hd hon => by
              have f14 := hd 14 (by decide) _ rfl
              have f15 := hd 15 (by decide) _ rfl
              have f11 := hd 11 (by decide) _ rfl
              have e14 : σ 14 = _ := f14.1 hon
              have e15 : σ 15 = _ := f15.1 hon
              have e11 : σ 11 = _ := f11.1 trivial
              have hgd : σ 11 = .bool true := hon
              have hgb := (f11.1 trivial : σ 11 = _).symm.trans hgd
              simp only [Value.bool.injEq] at hgb
              try simp only [decide_eq_true_eq, decide_eq_false_iff_not, Bool.or_eq_true, Bool.and_eq_true, Bool.or_eq_false_iff, Bool.and_eq_false_iff, Bool.not_eq_true', Bool.not_eq_false', Int.not_lt, Int.not_le, ne_eq, Decidable.not_not] at hgb
              exact OpOK.sub (r := [(86, _), (87, _), (0, _), (6, _), (7, _), (8, _), (11, _), (12, _), (13, _), (14, _)]) ⟨congrArg some e14, congrArg some e15, rfl, rfl, rfl, rfl, rfl, rfl, rfl, rfl, trivial⟩ (by
                exact OpOK.eq (r_from (lo := lo) Try.underlying22 sz5 rfl rfl rfl (by omega) (by omega)))
              ), (fun _ _ _ _ _ _ h => h), (FreeR.no _), ?_⟩
          refine ⟨_, true, (fun σ ι w1 hg hd hon => by
              have hN := hN.ofGr ((Gr.refl _).drew.trans hg)
              have hB14 := hB14.gr ((Gr.refl _).drew.trans hg)
              have f13 := hd 13 (by decide) _ rfl
              have f16 := hd 16 (by decide) _ rfl
              have f11 := hd 11 (by decide) _ rfl
              have e13 : σ 13 = _ := f13.1 hon
              have e16 : σ 16 = _ := f16.1 hon
              have e11 : σ 11 = _ := f11.1 trivial
              have hgd : σ 11 = .bool true := hon
              have hgb := (f11.1 trivial : σ 11 = _).symm.trans hgd
              simp only [Value.bool.injEq] at hgb
              try simp only [decide_eq_true_eq, decide_eq_false_iff_not, Bool.or_eq_true, Bool.and_eq_true, Bool.or_eq_false_iff, Bool.and_eq_false_iff, Bool.not_eq_true', Bool.not_eq_false', Int.not_lt, Int.not_le, ne_eq, Decidable.not_not] at hgb
              skip
              exact CallOK.sub (r := [(85, _), (88, _), (0, _), (6, _), (7, _), (8, _), (11, _), (12, _), (13, _), (14, _)]) ⟨congrArg some e13, congrArg some e16, rfl, rfl, rfl, rfl, rfl, rfl, rfl, rfl, trivial⟩ (by
                exact CallOK.V (enters_of rfl rfl hb17) (rsame8' hN.sat hE4 (hEo.off (by omega)) (by simp) (by simp)))
              ), (fun _ _ _ _ _ _ h => h), (fun _ _ _ _ _ _ h => h), ?_⟩
          refine ⟨_, false, (fun σ ι w1 hg hd hon => by
              have f11 := hd 11 (by decide) _ rfl
              have f17 := hd 17 (by decide) _ rfl
              have e11 : σ 11 = _ := f11.1 trivial
              have ec : σ 11 = _ := f11.1 trivial
              exact OpOK.id (by refine OpOK.and (dc := 83) (dy := 89) (kc := σ 11) (ky := σ 17) ?_ ?_ ec (fun hb => f17.1 (by show σ 11 = _; rw [ec]; exact congrArg Value.bool hb)) <;> rfl)
              ), (fun _ _ _ _ _ _ h => h), (FreeR.no _), ?_⟩
          refine ⟨_, false, (fun σ ι w1 hg hd hon => by
              have f18 := hd 18 (by decide) _ rfl
              have e18 : σ 18 = _ := f18.1 trivial
              exact OpOK.sub (r := [(90, _), (0, _), (6, _), (7, _), (8, _), (11, _), (12, _), (13, _), (14, _)]) ⟨congrArg some e18, rfl, rfl, rfl, rfl, rfl, rfl, rfl, rfl, trivial⟩ (by
                exact OpOK.eq (r_move rfl))
              ), (fun _ _ _ _ _ _ h => h), (FreeR.no _), ?_⟩
          refine ⟨_, false, (fun σ ι w1 hg hd hon => by
              have f19 := hd 19 (by decide) _ rfl
              have e19 : σ 19 = _ := f19.1 trivial
              have hgd : σ 19 = .bool true := hon
              have hgb := (f19.1 trivial : σ 19 = _).symm.trans hgd
              simp only [Value.bool.injEq] at hgb
              try simp only [decide_eq_true_eq, decide_eq_false_iff_not, Bool.or_eq_true, Bool.and_eq_true, Bool.or_eq_false_iff, Bool.and_eq_false_iff, Bool.not_eq_true', Bool.not_eq_false', Int.not_lt, Int.not_le, ne_eq, Decidable.not_not] at hgb
              exact OpOK.sub (r := [(0, _), (6, _), (7, _), (8, _), (11, _), (12, _), (13, _), (14, _)]) ⟨rfl, rfl, rfl, rfl, rfl, rfl, rfl, rfl, trivial⟩ (by
                exact OpOK.eq (r_move rfl))
              ), (fun _ _ _ _ _ _ h => h), (FreeR.no _), ?_⟩
          refine ⟨_, true, (fun σ ι w1 hg hd hon => by
              have hN := hN.ofGr ((Gr.refl _).drew.trans hg)
              have hB14 := hB14.gr ((Gr.refl _).drew.trans hg)
              have f20 := hd 20 (by decide) _ rfl
              have f19 := hd 19 (by decide) _ rfl
              have e20 : σ 20 = _ := f20.1 hon
              have e19 : σ 19 = _ := f19.1 trivial
              have hgd : σ 19 = .bool true := hon
              have hgb := (f19.1 trivial : σ 19 = _).symm.trans hgd
              simp only [Value.bool.injEq] at hgb
              try simp only [decide_eq_true_eq, decide_eq_false_iff_not, Bool.or_eq_true, Bool.and_eq_true, Bool.or_eq_false_iff, Bool.and_eq_false_iff, Bool.not_eq_true', Bool.not_eq_false', Int.not_lt, Int.not_le, ne_eq, Decidable.not_not] at hgb
              skip
              exact CallOK.sub (r := [(92, _), (0, _), (6, _), (7, _), (8, _), (11, _), (12, _), (13, _), (14, _)]) ⟨congrArg some e20, rfl, rfl, rfl, rfl, rfl, rfl, rfl, rfl, trivial⟩ (by
                exact CallOK.V (enters_of rfl rfl hb18) (jwhole' hN.sat hEo rfl (by omega) (by omega)))
              ), (fun _ _ _ _ _ _ h => h), (fun _ _ _ _ _ _ h => h), ?_⟩
          refine ⟨_, false, (fun σ ι w1 hg hd hon => by
              have f19 := hd 19 (by decide) _ rfl
              have e19 : σ 19 = _ := f19.1 trivial
              have hgd : σ 19 = .bool true := hon
              have hgb := (f19.1 trivial : σ 19 = _).symm.trans hgd
              simp only [Value.bool.injEq] at hgb
              try simp only [decide_eq_true_eq, decide_eq_false_iff_not, Bool.or_eq_true, Bool.and_eq_true, Bool.or_eq_false_iff, Bool.and_eq_false_iff, Bool.not_eq_true', Bool.not_eq_false', Int.not_lt, Int.not_le, ne_eq, Decidable.not_not] at hgb
              exact OpOK.sub (r := [(0, _), (6, _), (7, _), (8, _), (11, _), (12, _), (13, _), (14, _)]) ⟨rfl, rfl, rfl, rfl, rfl, rfl, rfl, rfl, trivial⟩ (by
                exact OpOK.eq (r_move rfl))
              ), (fun _ _ _ _ _ _ h => h), (FreeR.no _), ?_⟩
          refine ⟨_, false, (fun σ ι w1 hg hd hon => by
              have f19 := hd 19 (by decide) _ rfl
              have e19 : σ 19 = _ := f19.1 trivial
              have hgd : σ 19 = .bool true := hon
              have hgb := (f19.1 trivial : σ 19 = _).symm.trans hgd
              simp only [Value.bool.injEq] at hgb
              try simp only [decide_eq_true_eq, decide_eq_false_iff_not, Bool.or_eq_true, Bool.and_eq_true, Bool.or_eq_false_iff, Bool.and_eq_false_iff, Bool.not_eq_true', Bool.not_eq_false', Int.not_lt, Int.not_le, ne_eq, Decidable.not_not] at hgb
              exact OpOK.sub (r := [(0, _), (6, _), (7, _), (8, _), (11, _), (12, _), (13, _), (14, _)]) ⟨rfl, rfl, rfl, rfl, rfl, rfl, rfl, rfl, trivial⟩ (by
                exact OpOK.eq (r_move rfl))
              ), (fun _ _ _ _ _ _ h => h), (FreeR.no _), ?_⟩
          refine ⟨_, false, (fun σ ι w1 hg hd hon => by
              have f22 := hd 22 (by decide) _ rfl
              have f23 := hd 23 (by decide) _ rfl
              have f19 := hd 19 (by decide) _ rfl
              have e22 : σ 22 = _ := f22.1 hon
              have e23 : σ 23 = _ := f23.1 hon
              have e19 : σ 19 = _ := f19.1 trivial
              have hgd : σ 19 = .bool true := hon
              have hgb := (f19.1 trivial : σ 19 = _).symm.trans hgd
              simp only [Value.bool.injEq] at hgb
              try simp only [decide_eq_true_eq, decide_eq_false_iff_not, Bool.or_eq_true, Bool.and_eq_true, Bool.or_eq_false_iff, Bool.and_eq_false_iff, Bool.not_eq_true', Bool.not_eq_false', Int.not_lt, Int.not_le, ne_eq, Decidable.not_not] at hgb
              exact OpOK.sub (r := [(94, _), (95, _), (0, _), (6, _), (7, _), (8, _), (11, _), (12, _), (13, _), (14, _)]) ⟨congrArg some e22, congrArg some e23, rfl, rfl, rfl, rfl, rfl, rfl, rfl, rfl, trivial⟩ (by
                exact OpOK.eq (r_upto (hi := lo) Try.underlying22 sz5 rfl rfl rfl (by omega)))
              ), (fun _ _ _ _ _ _ h => h), (FreeR.no _), ?_⟩
          refine ⟨_, true, (fun σ ι w1 hg hd hon => by
              have hN := hN.ofGr ((Gr.refl _).drew.trans hg)
              have hB14 := hB14.gr ((Gr.refl _).drew.trans hg)
              have f21 := hd 21 (by decide) _ rfl
              have f24 := hd 24 (by decide) _ rfl
              have f19 := hd 19 (by decide) _ rfl
              have e21 : σ 21 = _ := f21.1 hon
              have e24 : σ 24 = _ := f24.1 hon
              have e19 : σ 19 = _ := f19.1 trivial
              have hgd : σ 19 = .bool true := hon
              have hgb := (f19.1 trivial : σ 19 = _).symm.trans hgd
              simp only [Value.bool.injEq] at hgb
              try simp only [decide_eq_true_eq, decide_eq_false_iff_not, Bool.or_eq_true, Bool.and_eq_true, Bool.or_eq_false_iff, Bool.and_eq_false_iff, Bool.not_eq_true', Bool.not_eq_false', Int.not_lt, Int.not_le, ne_eq, Decidable.not_not] at hgb
              skip
              exact CallOK.sub (r := [(93, _), (96, _), (0, _), (6, _), (7, _), (8, _), (11, _), (12, _), (13, _), (14, _)]) ⟨congrArg some e21, congrArg some e24, rfl, rfl, rfl, rfl, rfl, rfl, rfl, rfl, trivial⟩ (by
                exact CallOK.V (enters_of rfl rfl hb17) (rsame8' (l := pl.take lo) (m := jl.take lo) hN.sat (hEo.take lo) (hE1.take lo) (by rw [hjd]; simp; omega) (by simp; omega)))
              ), (fun _ _ _ _ _ _ h => h), (fun _ _ _ _ _ _ h => h), ?_⟩
          refine ⟨_, false, (fun σ ι w1 hg hd hon => by
              have f19 := hd 19 (by decide) _ rfl
              have f25 := hd 25 (by decide) _ rfl
              have e19 : σ 19 = _ := f19.1 trivial
              have ec : σ 19 = _ := f19.1 trivial
              exact OpOK.id (by refine OpOK.and (dc := 91) (dy := 97) (kc := σ 19) (ky := σ 25) ?_ ?_ ec (fun hb => f25.1 (by show σ 19 = _; rw [ec]; exact congrArg Value.bool hb)) <;> rfl)
              ), (fun _ _ _ _ _ _ h => h), (FreeR.no _), ?_⟩
          intro σ ι a60 w23 hgw23 H117 hd hap
          skip
          have hN0 := hN
          have hN := hN.ofGr ((Gr.refl _).drew.trans hgw23)
          replace hB14 := hB14.gr ((Gr.refl _).drew.trans hgw23)
          have e26 : σ 26 = _ := (hd 26 (by decide) _ rfl).1 trivial
          replace H117 := H117.sub (r := [(98, _), (0, _), (6, _), (7, _), (8, _), (11, _), (12, _), (13, _), (14, _)]) ⟨congrArg some e26, rfl, rfl, rfl, rfl, rfl, rfl, rfl, rfl, trivial⟩
          clear hd
          replace H117 := H117.known (t := 98) (b := true) rfl (by rw [hpt]; simp; omega)
          clear hap
          refine wl1 H117 (r_move rfl) rfl rfl rfl rfl fun a61 H118 => ?_
          clear H117 a60
          refine wl_on (d := 99) H118 rfl rfl rfl ?_
          refine wl1 H118 (r_move rfl) rfl rfl rfl rfl fun a62 H119 => ?_
          clear H118 a61
          refine wl_on (d := 99) H119 rfl rfl rfl ?_
          refine wlc  H119 rfl rfl hb14 rfl (lput (l := pl) (R := none) (cr := 0) (rec := []) hN.sat hEo (by omega) (by omega) (Els.nil _ _ _) (Nat.le_refl _)) fun v w24 hR a63 H120 => ?_
          clear H119 a62
          obtain ⟨J24, nw24, ⟨A5, c5, rfl, hc5, hE5⟩⟩ := hR
          replace hA := hA.up nw24.le
          replace hE1 := hE1.up nw24.le
          replace hE2 := hE2.up nw24.le
          replace hEo := hEo.up nw24.le
          replace hE3 := hE3.up nw24.le
          replace hE4 := hE4.up nw24.le
          replace hB14 := hB14.next nw24
          have hN := hN.trans nw24
          have hpe : putErr pl [] = 60 := by unfold putErr; rw [hjd, hln, if_neg (by simp), if_pos (by show lo < jl.length; omega)]
          rw [hpe] at H120
          refine wl_on (d := 99) H120 rfl rfl rfl ?_
          refine wl1 H120 (r_fieldv 1 rfl rfl (by kernel_rfl)) rfl rfl rfl rfl fun a64 H121 => ?_
          clear H120 a63
          refine wl_on (d := 99) H121 rfl rfl rfl ?_
          refine wl1 H121 (r_eql rfl rfl) rfl rfl rfl rfl fun a65 H122 => ?_
          clear H121 a64
          replace H122 := H122.known (t := 103) (b := true) rfl (by simp)
          refine wl1 H122 (r_pick_t rfl rfl) rfl rfl rfl rfl fun a66 H123 => ?_
          clear H122 a65
          refine wl1 H123 (r_move rfl) rfl rfl rfl rfl fun a67 H124 => ?_
          clear H123 a66
          refine wl_on (d := 105) H124 rfl rfl rfl ?_
          refine wl1 H124 (r_move rfl) rfl rfl rfl rfl fun a68 H125 => ?_
          clear H124 a67
          refine wl1 H125 (r_pick_t rfl rfl) rfl rfl rfl rfl fun a69 H126 => ?_
          clear H125 a68
          refine wl1 H126 (r_assign rfl) rfl rfl rfl rfl fun a70 H127 => ?_
          clear H126 a69
          refine wl_end ?_
          refine th_n ?_
          refine wpIn_ret ?_
          refine fin_r H127 (res1 rfl H127 rfl) ?_
          exact ⟨rfl, hN.gr⟩
  -- UNUSED r17.26
end Go.Proofs.Yteinlgobadlgnaa
