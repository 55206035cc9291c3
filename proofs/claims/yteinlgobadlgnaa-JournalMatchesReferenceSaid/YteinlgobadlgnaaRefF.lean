/- The reference of the journal: equality. -/
import Derived.Test.YteinlgobadlgnaaRefE
set_option linter.unusedVariables false
set_option linter.unusedSimpArgs false
namespace Go.Proofs.Yteinlgobadlgnaa
open Go.RowKit


theorem Els.rowAt {α : Type} {d : Kd α} {I : Im} {b o : Nat} {xs : List (List α)} (h : Els (kSl d) I (some ⟨b, o, none⟩) xs) {j : Nat} (hj : j < xs.length) : ∃ A c, I.cell? ⟨b, o + j * 1, none⟩ = some (.slice A xs[j].length c) ∧ xs[j].length ≤ c ∧ Els d I A xs[j] := by
  obtain ⟨vs, ⟨A, c, hv, hc, hE⟩, hat⟩ := h.at_ (List.getElem?_eq_getElem hj)
  have := hat 0 (.slice A xs[j].length c) (by rw [hv]; rfl)
  exact ⟨A, c, this, hc, hE⟩
theorem take_step {α : Type} {l m : List α} {k : Nat} (hk : k < l.length) (hk' : k < m.length) (h : l.take k = m.take k) (he : l[k] = m[k]) : l.take (k + 1) = m.take (k + 1) := by
  rw [List.take_succ_eq_append_getElem hk, List.take_succ_eq_append_getElem hk', h, he]
theorem eq_of_take {α : Type} {l m : List α} {k : Nat} (hk : l.length ≤ k) (hl : l.length = m.length) (h : l.take k = m.take k) : l = m := by
  rwa [List.take_of_length_le hk, List.take_of_length_le (by omega)] at h
theorem ne_of_len {α : Type} {l m : List α} (h : l.length ≠ m.length) : l ≠ m := fun e => h (by rw [e])
theorem ne_of_get {α : Type} {l m : List α} {k : Nat} (hk : k < l.length) (hk' : k < m.length) (h : l[k] ≠ m[k]) : l ≠ m := fun e => h (by subst e; rfl)

set_option maxRecDepth 100000 in
set_option maxHeartbeats 400000 in
theorem rsame8 {A B : Option Addr} {c c2 : Nat} {l m : List Int} {I : Im} {w : World} (hS : Sat I w) (hA : Els (kInt .u8) I A l) (hB : Els (kInt .u8) I B m) :
    Ret Try.prog 17 [.slice A l.length c, .slice B m.length c2] w (fun v w' => v = .bool (decide (l = m)) ∧ Gr w w') := by
  have hl9 := hA.1
  refine ret_of (N := 26) Try.func17 rfl rfl rfl fun a0 H0 => ?_
  have hN := New.refl hS
  simp only [argsEnv, Nat.zero_add, Nat.reduceAdd] at H0
  refine wpIn_seq ?_
  refine w_reg ?_
  refine wl1 H0 (r_assign rfl) rfl rfl rfl rfl fun a1 H1 => ?_
  clear H0 a0
  refine wl_end ?_
  refine th_n ?_
  refine wpIn_seq ?_
  refine wpIn_seq ?_
  refine w_reg ?_
  refine wl1 H1 (r_move rfl) rfl rfl rfl rfl fun a2 H2 => ?_
  clear H1 a1
  refine wl1 H2 (r_len Try.underlying22 rfl) rfl rfl rfl rfl fun a3 H3 => ?_
  clear H2 a2
  refine wl1 H3 (r_move rfl) rfl rfl rfl rfl fun a4 H4 => ?_
  clear H3 a3
  refine wl1 H4 (r_len Try.underlying22 rfl) rfl rfl rfl rfl fun a5 H5 => ?_
  clear H4 a4
  refine wl1 H5 (r_neq rfl rfl) rfl rfl rfl rfl fun a6 H6 => ?_
  clear H5 a5
  refine wl_end ?_
  refine th_n ?_
  first | refine w_if H6 rfl (fun hc10 => ?_) (fun hc10 => ?_) | refine w_cond H6 rfl (fun hc10 => ?_) (fun hc10 => ?_)
  ·
    try simp only [decide_eq_true_eq, decide_eq_false_iff_not, Bool.or_eq_true, Bool.and_eq_true, Bool.or_eq_false_iff, Bool.and_eq_false_iff, Bool.not_eq_true', Bool.not_eq_false', Int.not_lt, Int.not_le, ne_eq, Decidable.not_not] at hc10
    refine wpIn_seq ?_
    refine w_reg ?_
    refine wl1 H6 (r_assign rfl) rfl rfl rfl rfl fun a7 H7 => ?_
    clear H6 a6
    refine wl_end ?_
    refine th_n ?_
    refine wpIn_ret ?_
    refine th_r ?_
    refine fin_r H7 (res1 rfl H7 rfl) ?_
    exact ⟨by rw [decide_eq_false (ne_of_len (by omega))], hN.gr⟩
  ·
    try simp only [decide_eq_true_eq, decide_eq_false_iff_not, Bool.or_eq_true, Bool.and_eq_true, Bool.or_eq_false_iff, Bool.and_eq_false_iff, Bool.not_eq_true', Bool.not_eq_false', Int.not_lt, Int.not_le, ne_eq, Decidable.not_not] at hc10
    have hlm : l.length = m.length := by omega
    refine wpIn_skip ?_
    refine th_n ?_
    refine wpIn_seq ?_
    refine wpIn_seq ?_
    refine w_reg ?_
    refine wl1 H6 (r_assign rfl) rfl rfl rfl rfl fun a7 H8 => ?_
    clear H6 a6
    refine wl_end ?_
    refine th_n ?_
    refine wpIn_block ?_
    refine w_loop (ι := Nat) (fun k => [(5, .int .i64 (k : Int))]) (fun k W => New I w I W ∧ (k ≤ l.length ∧ l.take k = m.take k)) (fun k => l.length - k) (l0 := [(0, _), (1, _)]) 0 H8 ⟨rfl, rfl, rfl, trivial⟩ ⟨hN, Nat.zero_le _, by simp⟩ ?_
    rintro k a8 w1 H9 ⟨hN, hk, hT⟩
    clear H8 a7
    simp only [List.cons_append, List.nil_append] at H9
    refine wpIn_seq ?_
    refine wpIn_seq ?_
    refine w_reg ?_
    refine wl1 H9 (r_move rfl) rfl rfl rfl rfl fun a9 H10 => ?_
    clear H9 a8
    refine wl1 H10 (r_move rfl) rfl rfl rfl rfl fun a10 H11 => ?_
    clear H10 a9
    refine wl1 H11 (r_len Try.underlying22 rfl) rfl rfl rfl rfl fun a11 H12 => ?_
    clear H11 a10
    refine wl1 H12 (r_lss rfl rfl) rfl rfl rfl rfl fun a12 H13 => ?_
    clear H12 a11
    refine wl_end ?_
    refine th_n ?_
    first | refine w_if H13 rfl (fun hc14 => ?_) (fun hc14 => ?_) | refine w_cond H13 rfl (fun hc14 => ?_) (fun hc14 => ?_)
    ·
      try simp only [decide_eq_true_eq, decide_eq_false_iff_not, Bool.or_eq_true, Bool.and_eq_true, Bool.or_eq_false_iff, Bool.and_eq_false_iff, Bool.not_eq_true', Bool.not_eq_false', Int.not_lt, Int.not_le, ne_eq, Decidable.not_not] at hc14
      obtain ⟨bA, oA, rfl⟩ := hA.form (by omega)
      obtain ⟨bB, oB, rfl⟩ := hB.form (by omega)
      have hkl : k < l.length := by omega
      have hkm : k < m.length := by omega
      refine wpIn_skip ?_
      refine th_n ?_
      refine wpIn_seq ?_
      refine wpIn_block ?_
      refine wpIn_seq ?_
      have hS0 := hN.sat
      have hNsz6 := hN.gr.size
      refine w_drawE (m := 8) (l0 := [(0, _), (1, _), (5, _)]) hfol H13 ⟨rfl, rfl, rfl, trivial⟩ (by kernel_rfl) ?_
      refine ⟨_, false, (fun σ ι w1 hg hd hon => by
          exact OpOK.sub (r := [(0, _), (1, _), (5, _)]) ⟨rfl, rfl, rfl, trivial⟩ (by
            exact OpOK.eq (r_move rfl))
          ), (fun _ _ _ _ _ _ h => h), (FreeR.no _), ?_⟩
      refine ⟨_, false, (fun σ ι w1 hg hd hon => by
          exact OpOK.sub (r := [(0, _), (1, _), (5, _)]) ⟨rfl, rfl, rfl, trivial⟩ (by
            exact OpOK.eq (r_move rfl))
          ), (fun _ _ _ _ _ _ h => h), (FreeR.no _), ?_⟩
      refine ⟨_, false, (fun σ ι w1 hg hd hon => by
          have f0 := hd 0 (by decide) _ rfl
          have f1 := hd 1 (by decide) _ rfl
          have e0 : σ 0 = _ := f0.1 trivial
          have e1 : σ 1 = _ := f1.1 trivial
          exact OpOK.sub (r := [(17, _), (18, _), (0, _), (1, _), (5, _)]) ⟨congrArg some e0, congrArg some e1, rfl, rfl, rfl, trivial⟩ (by
            exact OpOK.eq (r_idx Try.underlying22 sz5 rfl rfl (i := k) rfl (by omega)))
          ), (fun _ _ _ _ _ _ h => h), (FreeR.no _), ?_⟩
      refine ⟨_, false, (fun σ ι w1 hg hd hon => by
          have hN := hN.ofGr ((Gr.refl _).drew.trans hg)
          have f2 := hd 2 (by decide) _ rfl
          have e2 : σ 2 = _ := f2.1 trivial
          exact OpOK.sub (r := [(19, _), (0, _), (1, _), (5, _)]) ⟨congrArg some e2, rfl, rfl, rfl, trivial⟩ (by
            exact OpOK.eq (r_load sc5 rfl (hN.sat.cell (hA.num (j := k) (by omega)).1)))
          ), (fun _ _ _ _ _ _ h => h), (FreeR.no _), ?_⟩
      refine ⟨_, false, (fun σ ι w1 hg hd hon => by
          exact OpOK.sub (r := [(0, _), (1, _), (5, _)]) ⟨rfl, rfl, rfl, trivial⟩ (by
            exact OpOK.eq (r_move rfl))
          ), (fun _ _ _ _ _ _ h => h), (FreeR.no _), ?_⟩
      refine ⟨_, false, (fun σ ι w1 hg hd hon => by
          exact OpOK.sub (r := [(0, _), (1, _), (5, _)]) ⟨rfl, rfl, rfl, trivial⟩ (by
            exact OpOK.eq (r_move rfl))
          ), (fun _ _ _ _ _ _ h => h), (FreeR.no _), ?_⟩
      refine ⟨_, false, (fun σ ι w1 hg hd hon => by
          have f4 := hd 4 (by decide) _ rfl
          have f5 := hd 5 (by decide) _ rfl
          have e4 : σ 4 = _ := f4.1 trivial
          have e5 : σ 5 = _ := f5.1 trivial
          exact OpOK.sub (r := [(21, _), (22, _), (0, _), (1, _), (5, _)]) ⟨congrArg some e4, congrArg some e5, rfl, rfl, rfl, trivial⟩ (by
            exact OpOK.eq (r_idx Try.underlying22 sz5 rfl rfl (i := k) rfl (by omega)))
          ), (fun _ _ _ _ _ _ h => h), (FreeR.no _), ?_⟩
      refine ⟨_, false, (fun σ ι w1 hg hd hon => by
          have hN := hN.ofGr ((Gr.refl _).drew.trans hg)
          have f6 := hd 6 (by decide) _ rfl
          have e6 : σ 6 = _ := f6.1 trivial
          exact OpOK.sub (r := [(23, _), (0, _), (1, _), (5, _)]) ⟨congrArg some e6, rfl, rfl, rfl, trivial⟩ (by
            exact OpOK.eq (r_load sc5 rfl (hN.sat.cell (hB.num (j := k) (by omega)).1)))
          ), (fun _ _ _ _ _ _ h => h), (FreeR.no _), ?_⟩
      intro σ ι a13 w3 hgw3 H14 hd hap
      skip
      have hN0 := hN
      have hN := hN.ofGr ((Gr.refl _).drew.trans hgw3)
      have e3 : σ 3 = _ := (hd 3 (by decide) _ rfl).1 trivial
      have e7 : σ 7 = _ := (hd 7 (by decide) _ rfl).1 trivial
      replace H14 := H14.sub (r := [(20, _), (24, _), (0, _), (1, _), (5, _)]) ⟨congrArg some e3, congrArg some e7, rfl, rfl, rfl, trivial⟩
      clear hd
      clear hap
      refine wl1 H14 (r_neq rfl rfl) rfl rfl rfl rfl fun a14 H15 => ?_
      clear H14 a13
      refine wl_end ?_
      refine th_n ?_
      first | refine w_if H15 rfl (fun hc25 => ?_) (fun hc25 => ?_) | refine w_cond H15 rfl (fun hc25 => ?_) (fun hc25 => ?_)
      ·
        try simp only [decide_eq_true_eq, decide_eq_false_iff_not, Bool.or_eq_true, Bool.and_eq_true, Bool.or_eq_false_iff, Bool.and_eq_false_iff, Bool.not_eq_true', Bool.not_eq_false', Int.not_lt, Int.not_le, ne_eq, Decidable.not_not] at hc25
        refine wpIn_seq ?_
        refine w_reg ?_
        refine wl1 H15 (r_assign rfl) rfl rfl rfl rfl fun a15 H16 => ?_
        clear H15 a14
        refine wl_end ?_
        refine th_n ?_
        refine wpIn_ret ?_
        refine bl_r ?_
        refine th_r ?_
        refine th_r ?_
        refine bl_r ?_
        refine th_r ?_
        refine fin_r H16 (res1 rfl H16 rfl) ?_
        exact ⟨by rw [decide_eq_false (ne_of_get hkl hkm hc25)], hN.gr⟩
      ·
        try simp only [decide_eq_true_eq, decide_eq_false_iff_not, Bool.or_eq_true, Bool.and_eq_true, Bool.or_eq_false_iff, Bool.and_eq_false_iff, Bool.not_eq_true', Bool.not_eq_false', Int.not_lt, Int.not_le, ne_eq, Decidable.not_not] at hc25
        refine wpIn_skip ?_
        refine bl_n ?_
        refine th_n ?_
        refine w_reg ?_
        refine wl1 H15 (r_move rfl) rfl rfl rfl rfl fun a15 H17 => ?_
        clear H15 a14
        first | refine wl1 H17 (r_addk rfl rfl (by simp only [InK]; omega)) rfl rfl rfl rfl fun a16 H18 => ?_ | refine wl1 H17 (r_add rfl rfl) rfl rfl rfl rfl fun a16 H18 => ?_
        clear H17 a15
        refine wl1 H18 (r_assign rfl) rfl rfl rfl rfl fun a17 H19 => ?_
        clear H18 a16
        refine wl_end ?_
        exact th_n ⟨k + 1, (by omega), H19.sub ⟨rfl, rfl, rfl, trivial⟩, hN, by omega, take_step hkl hkm hT hc25⟩
    ·
      try simp only [decide_eq_true_eq, decide_eq_false_iff_not, Bool.or_eq_true, Bool.and_eq_true, Bool.or_eq_false_iff, Bool.and_eq_false_iff, Bool.not_eq_true', Bool.not_eq_false', Int.not_lt, Int.not_le, ne_eq, Decidable.not_not] at hc14
      refine wpIn_exit ?_
      refine th_x ?_
      refine th_x ?_
      refine bl_hit ?_
      refine th_n ?_
      refine wpIn_seq ?_
      refine w_reg ?_
      refine wl1 H13 (r_assign rfl) rfl rfl rfl rfl fun a13 H20 => ?_
      clear H13 a12
      refine wl_end ?_
      refine th_n ?_
      refine wpIn_ret ?_
      refine fin_r H20 (res1 rfl H20 rfl) ?_
      exact ⟨by rw [decide_eq_true (eq_of_take (by omega) hlm hT)], hN.gr⟩
set_option maxRecDepth 100000 in
set_option maxHeartbeats 400000 in
theorem rints {A B : Option Addr} {c c2 : Nat} {l m : List Int} {I : Im} {w : World} (hS : Sat I w) (hA : Els (kInt .i64) I A l) (hB : Els (kInt .i64) I B m) :
    Ret Try.prog 29 [.slice A l.length c, .slice B m.length c2] w (fun v w' => v = .bool (decide (l = m)) ∧ Gr w w') := by
  have hl9 := hA.1
  refine ret_of (N := 26) Try.func29 rfl rfl rfl fun a0 H0 => ?_
  have hN := New.refl hS
  simp only [argsEnv, Nat.zero_add, Nat.reduceAdd] at H0
  refine wpIn_seq ?_
  refine w_reg ?_
  refine wl1 H0 (r_assign rfl) rfl rfl rfl rfl fun a1 H1 => ?_
  clear H0 a0
  refine wl_end ?_
  refine th_n ?_
  refine wpIn_seq ?_
  refine wpIn_seq ?_
  refine w_reg ?_
  refine wl1 H1 (r_move rfl) rfl rfl rfl rfl fun a2 H2 => ?_
  clear H1 a1
  refine wl1 H2 (r_len Try.underlying29 rfl) rfl rfl rfl rfl fun a3 H3 => ?_
  clear H2 a2
  refine wl1 H3 (r_move rfl) rfl rfl rfl rfl fun a4 H4 => ?_
  clear H3 a3
  refine wl1 H4 (r_len Try.underlying29 rfl) rfl rfl rfl rfl fun a5 H5 => ?_
  clear H4 a4
  refine wl1 H5 (r_neq rfl rfl) rfl rfl rfl rfl fun a6 H6 => ?_
  clear H5 a5
  refine wl_end ?_
  refine th_n ?_
  first | refine w_if H6 rfl (fun hc10 => ?_) (fun hc10 => ?_) | refine w_cond H6 rfl (fun hc10 => ?_) (fun hc10 => ?_)
  ·
    try simp only [decide_eq_true_eq, decide_eq_false_iff_not, Bool.or_eq_true, Bool.and_eq_true, Bool.or_eq_false_iff, Bool.and_eq_false_iff, Bool.not_eq_true', Bool.not_eq_false', Int.not_lt, Int.not_le, ne_eq, Decidable.not_not] at hc10
    refine wpIn_seq ?_
    refine w_reg ?_
    refine wl1 H6 (r_assign rfl) rfl rfl rfl rfl fun a7 H7 => ?_
    clear H6 a6
    refine wl_end ?_
    refine th_n ?_
    refine wpIn_ret ?_
    refine th_r ?_
    refine fin_r H7 (res1 rfl H7 rfl) ?_
    exact ⟨by rw [decide_eq_false (ne_of_len (by omega))], hN.gr⟩
  ·
    try simp only [decide_eq_true_eq, decide_eq_false_iff_not, Bool.or_eq_true, Bool.and_eq_true, Bool.or_eq_false_iff, Bool.and_eq_false_iff, Bool.not_eq_true', Bool.not_eq_false', Int.not_lt, Int.not_le, ne_eq, Decidable.not_not] at hc10
    have hlm : l.length = m.length := by omega
    refine wpIn_skip ?_
    refine th_n ?_
    refine wpIn_seq ?_
    refine wpIn_seq ?_
    refine w_reg ?_
    refine wl1 H6 (r_assign rfl) rfl rfl rfl rfl fun a7 H8 => ?_
    clear H6 a6
    refine wl_end ?_
    refine th_n ?_
    refine wpIn_block ?_
    refine w_loop (ι := Nat) (fun k => [(5, .int .i64 (k : Int))]) (fun k W => New I w I W ∧ (k ≤ l.length ∧ l.take k = m.take k)) (fun k => l.length - k) (l0 := [(0, _), (1, _)]) 0 H8 ⟨rfl, rfl, rfl, trivial⟩ ⟨hN, Nat.zero_le _, by simp⟩ ?_
    rintro k a8 w1 H9 ⟨hN, hk, hT⟩
    clear H8 a7
    simp only [List.cons_append, List.nil_append] at H9
    refine wpIn_seq ?_
    refine wpIn_seq ?_
    refine w_reg ?_
    refine wl1 H9 (r_move rfl) rfl rfl rfl rfl fun a9 H10 => ?_
    clear H9 a8
    refine wl1 H10 (r_move rfl) rfl rfl rfl rfl fun a10 H11 => ?_
    clear H10 a9
    refine wl1 H11 (r_len Try.underlying29 rfl) rfl rfl rfl rfl fun a11 H12 => ?_
    clear H11 a10
    refine wl1 H12 (r_lss rfl rfl) rfl rfl rfl rfl fun a12 H13 => ?_
    clear H12 a11
    refine wl_end ?_
    refine th_n ?_
    first | refine w_if H13 rfl (fun hc14 => ?_) (fun hc14 => ?_) | refine w_cond H13 rfl (fun hc14 => ?_) (fun hc14 => ?_)
    ·
      try simp only [decide_eq_true_eq, decide_eq_false_iff_not, Bool.or_eq_true, Bool.and_eq_true, Bool.or_eq_false_iff, Bool.and_eq_false_iff, Bool.not_eq_true', Bool.not_eq_false', Int.not_lt, Int.not_le, ne_eq, Decidable.not_not] at hc14
      obtain ⟨bA, oA, rfl⟩ := hA.form (by omega)
      obtain ⟨bB, oB, rfl⟩ := hB.form (by omega)
      have hkl : k < l.length := by omega
      have hkm : k < m.length := by omega
      refine wpIn_skip ?_
      refine th_n ?_
      refine wpIn_seq ?_
      refine wpIn_block ?_
      refine wpIn_seq ?_
      have hS0 := hN.sat
      have hNsz6 := hN.gr.size
      refine w_drawE (m := 8) (l0 := [(0, _), (1, _), (5, _)]) hfol H13 ⟨rfl, rfl, rfl, trivial⟩ (by kernel_rfl) ?_
      refine ⟨_, false, (fun σ ι w1 hg hd hon => by
          exact OpOK.sub (r := [(0, _), (1, _), (5, _)]) ⟨rfl, rfl, rfl, trivial⟩ (by
            exact OpOK.eq (r_move rfl))
          ), (fun _ _ _ _ _ _ h => h), (FreeR.no _), ?_⟩
      refine ⟨_, false, (fun σ ι w1 hg hd hon => by
          exact OpOK.sub (r := [(0, _), (1, _), (5, _)]) ⟨rfl, rfl, rfl, trivial⟩ (by
            exact OpOK.eq (r_move rfl))
          ), (fun _ _ _ _ _ _ h => h), (FreeR.no _), ?_⟩
      refine ⟨_, false, (fun σ ι w1 hg hd hon => by
          have f0 := hd 0 (by decide) _ rfl
          have f1 := hd 1 (by decide) _ rfl
          have e0 : σ 0 = _ := f0.1 trivial
          have e1 : σ 1 = _ := f1.1 trivial
          exact OpOK.sub (r := [(17, _), (18, _), (0, _), (1, _), (5, _)]) ⟨congrArg some e0, congrArg some e1, rfl, rfl, rfl, trivial⟩ (by
            exact OpOK.eq (r_idx Try.underlying29 sz3 rfl rfl (i := k) rfl (by omega)))
          ), (fun _ _ _ _ _ _ h => h), (FreeR.no _), ?_⟩
      refine ⟨_, false, (fun σ ι w1 hg hd hon => by
          have hN := hN.ofGr ((Gr.refl _).drew.trans hg)
          have f2 := hd 2 (by decide) _ rfl
          have e2 : σ 2 = _ := f2.1 trivial
          exact OpOK.sub (r := [(19, _), (0, _), (1, _), (5, _)]) ⟨congrArg some e2, rfl, rfl, rfl, trivial⟩ (by
            exact OpOK.eq (r_load sc3 rfl (hN.sat.cell (hA.num (j := k) (by omega)).1)))
          ), (fun _ _ _ _ _ _ h => h), (FreeR.no _), ?_⟩
      refine ⟨_, false, (fun σ ι w1 hg hd hon => by
          exact OpOK.sub (r := [(0, _), (1, _), (5, _)]) ⟨rfl, rfl, rfl, trivial⟩ (by
            exact OpOK.eq (r_move rfl))
          ), (fun _ _ _ _ _ _ h => h), (FreeR.no _), ?_⟩
      refine ⟨_, false, (fun σ ι w1 hg hd hon => by
          exact OpOK.sub (r := [(0, _), (1, _), (5, _)]) ⟨rfl, rfl, rfl, trivial⟩ (by
            exact OpOK.eq (r_move rfl))
          ), (fun _ _ _ _ _ _ h => h), (FreeR.no _), ?_⟩
      refine ⟨_, false, (fun σ ι w1 hg hd hon => by
          have f4 := hd 4 (by decide) _ rfl
          have f5 := hd 5 (by decide) _ rfl
          have e4 : σ 4 = _ := f4.1 trivial
          have e5 : σ 5 = _ := f5.1 trivial
          exact OpOK.sub (r := [(21, _), (22, _), (0, _), (1, _), (5, _)]) ⟨congrArg some e4, congrArg some e5, rfl, rfl, rfl, trivial⟩ (by
            exact OpOK.eq (r_idx Try.underlying29 sz3 rfl rfl (i := k) rfl (by omega)))
          ), (fun _ _ _ _ _ _ h => h), (FreeR.no _), ?_⟩
      refine ⟨_, false, (fun σ ι w1 hg hd hon => by
          have hN := hN.ofGr ((Gr.refl _).drew.trans hg)
          have f6 := hd 6 (by decide) _ rfl
          have e6 : σ 6 = _ := f6.1 trivial
          exact OpOK.sub (r := [(23, _), (0, _), (1, _), (5, _)]) ⟨congrArg some e6, rfl, rfl, rfl, trivial⟩ (by
            exact OpOK.eq (r_load sc3 rfl (hN.sat.cell (hB.num (j := k) (by omega)).1)))
          ), (fun _ _ _ _ _ _ h => h), (FreeR.no _), ?_⟩
      intro σ ι a13 w3 hgw3 H14 hd hap
      skip
      have hN0 := hN
      have hN := hN.ofGr ((Gr.refl _).drew.trans hgw3)
      have e3 : σ 3 = _ := (hd 3 (by decide) _ rfl).1 trivial
      have e7 : σ 7 = _ := (hd 7 (by decide) _ rfl).1 trivial
      replace H14 := H14.sub (r := [(20, _), (24, _), (0, _), (1, _), (5, _)]) ⟨congrArg some e3, congrArg some e7, rfl, rfl, rfl, trivial⟩
      clear hd
      clear hap
      refine wl1 H14 (r_neq rfl rfl) rfl rfl rfl rfl fun a14 H15 => ?_
      clear H14 a13
      refine wl_end ?_
      refine th_n ?_
      first | refine w_if H15 rfl (fun hc25 => ?_) (fun hc25 => ?_) | refine w_cond H15 rfl (fun hc25 => ?_) (fun hc25 => ?_)
      ·
        try simp only [decide_eq_true_eq, decide_eq_false_iff_not, Bool.or_eq_true, Bool.and_eq_true, Bool.or_eq_false_iff, Bool.and_eq_false_iff, Bool.not_eq_true', Bool.not_eq_false', Int.not_lt, Int.not_le, ne_eq, Decidable.not_not] at hc25
        refine wpIn_seq ?_
        refine w_reg ?_
        refine wl1 H15 (r_assign rfl) rfl rfl rfl rfl fun a15 H16 => ?_
        clear H15 a14
        refine wl_end ?_
        refine th_n ?_
        refine wpIn_ret ?_
        refine bl_r ?_
        refine th_r ?_
        refine th_r ?_
        refine bl_r ?_
        refine th_r ?_
        refine fin_r H16 (res1 rfl H16 rfl) ?_
        exact ⟨by rw [decide_eq_false (ne_of_get hkl hkm hc25)], hN.gr⟩
      ·
        try simp only [decide_eq_true_eq, decide_eq_false_iff_not, Bool.or_eq_true, Bool.and_eq_true, Bool.or_eq_false_iff, Bool.and_eq_false_iff, Bool.not_eq_true', Bool.not_eq_false', Int.not_lt, Int.not_le, ne_eq, Decidable.not_not] at hc25
        refine wpIn_skip ?_
        refine bl_n ?_
        refine th_n ?_
        refine w_reg ?_
        refine wl1 H15 (r_move rfl) rfl rfl rfl rfl fun a15 H17 => ?_
        clear H15 a14
        first | refine wl1 H17 (r_addk rfl rfl (by simp only [InK]; omega)) rfl rfl rfl rfl fun a16 H18 => ?_ | refine wl1 H17 (r_add rfl rfl) rfl rfl rfl rfl fun a16 H18 => ?_
        clear H17 a15
        refine wl1 H18 (r_assign rfl) rfl rfl rfl rfl fun a17 H19 => ?_
        clear H18 a16
        refine wl_end ?_
        exact th_n ⟨k + 1, (by omega), H19.sub ⟨rfl, rfl, rfl, trivial⟩, hN, by omega, take_step hkl hkm hT hc25⟩
    ·
      try simp only [decide_eq_true_eq, decide_eq_false_iff_not, Bool.or_eq_true, Bool.and_eq_true, Bool.or_eq_false_iff, Bool.and_eq_false_iff, Bool.not_eq_true', Bool.not_eq_false', Int.not_lt, Int.not_le, ne_eq, Decidable.not_not] at hc14
      refine wpIn_exit ?_
      refine th_x ?_
      refine th_x ?_
      refine bl_hit ?_
      refine th_n ?_
      refine wpIn_seq ?_
      refine w_reg ?_
      refine wl1 H13 (r_assign rfl) rfl rfl rfl rfl fun a13 H20 => ?_
      clear H13 a12
      refine wl_end ?_
      refine th_n ?_
      refine wpIn_ret ?_
      refine fin_r H20 (res1 rfl H20 rfl) ?_
      exact ⟨by rw [decide_eq_true (eq_of_take (by omega) hlm hT)], hN.gr⟩
set_option maxRecDepth 100000 in
set_option maxHeartbeats 400000 in
theorem rrecords {A B : Option Addr} {c c2 : Nat} {l m : List (List Int)} {I : Im} {w : World} (hS : Sat I w) (hA : Els (kSl (kInt .i64)) I A l) (hB : Els (kSl (kInt .i64)) I B m) :
    Ret Try.prog 16 [.slice A l.length c, .slice B m.length c2] w (fun v w' => v = .bool (decide (l = m)) ∧ Gr w w') := by
  have hl9 := hA.1
  refine ret_of (N := 27) Try.func16 rfl rfl rfl fun a0 H0 => ?_
  have hN := New.refl hS
  simp only [argsEnv, Nat.zero_add, Nat.reduceAdd] at H0
  refine wpIn_seq ?_
  refine w_reg ?_
  refine wl1 H0 (r_assign rfl) rfl rfl rfl rfl fun a1 H1 => ?_
  clear H0 a0
  refine wl_end ?_
  refine th_n ?_
  refine wpIn_seq ?_
  refine wpIn_seq ?_
  refine w_reg ?_
  refine wl1 H1 (r_move rfl) rfl rfl rfl rfl fun a2 H2 => ?_
  clear H1 a1
  refine wl1 H2 (r_len Try.underlying23 rfl) rfl rfl rfl rfl fun a3 H3 => ?_
  clear H2 a2
  refine wl1 H3 (r_move rfl) rfl rfl rfl rfl fun a4 H4 => ?_
  clear H3 a3
  refine wl1 H4 (r_len Try.underlying23 rfl) rfl rfl rfl rfl fun a5 H5 => ?_
  clear H4 a4
  refine wl1 H5 (r_neq rfl rfl) rfl rfl rfl rfl fun a6 H6 => ?_
  clear H5 a5
  refine wl_end ?_
  refine th_n ?_
  first | refine w_if H6 rfl (fun hc10 => ?_) (fun hc10 => ?_) | refine w_cond H6 rfl (fun hc10 => ?_) (fun hc10 => ?_)
  ·
    try simp only [decide_eq_true_eq, decide_eq_false_iff_not, Bool.or_eq_true, Bool.and_eq_true, Bool.or_eq_false_iff, Bool.and_eq_false_iff, Bool.not_eq_true', Bool.not_eq_false', Int.not_lt, Int.not_le, ne_eq, Decidable.not_not] at hc10
    refine wpIn_seq ?_
    refine w_reg ?_
    refine wl1 H6 (r_assign rfl) rfl rfl rfl rfl fun a7 H7 => ?_
    clear H6 a6
    refine wl_end ?_
    refine th_n ?_
    refine wpIn_ret ?_
    refine th_r ?_
    refine fin_r H7 (res1 rfl H7 rfl) ?_
    exact ⟨by rw [decide_eq_false (ne_of_len (by omega))], hN.gr⟩
  ·
    try simp only [decide_eq_true_eq, decide_eq_false_iff_not, Bool.or_eq_true, Bool.and_eq_true, Bool.or_eq_false_iff, Bool.and_eq_false_iff, Bool.not_eq_true', Bool.not_eq_false', Int.not_lt, Int.not_le, ne_eq, Decidable.not_not] at hc10
    have hlm : l.length = m.length := by omega
    refine wpIn_skip ?_
    refine th_n ?_
    refine wpIn_seq ?_
    refine wpIn_seq ?_
    refine w_reg ?_
    refine wl1 H6 (r_assign rfl) rfl rfl rfl rfl fun a7 H8 => ?_
    clear H6 a6
    refine wl_end ?_
    refine th_n ?_
    refine wpIn_block ?_
    refine w_loop (ι := Nat) (fun k => [(5, .int .i64 (k : Int))]) (fun k W => New I w I W ∧ (k ≤ l.length ∧ l.take k = m.take k)) (fun k => l.length - k) (l0 := [(0, _), (1, _)]) 0 H8 ⟨rfl, rfl, rfl, trivial⟩ ⟨hN, Nat.zero_le _, by simp⟩ ?_
    rintro k a8 w1 H9 ⟨hN, hk, hT⟩
    clear H8 a7
    simp only [List.cons_append, List.nil_append] at H9
    refine wpIn_seq ?_
    refine wpIn_seq ?_
    refine w_reg ?_
    refine wl1 H9 (r_move rfl) rfl rfl rfl rfl fun a9 H10 => ?_
    clear H9 a8
    refine wl1 H10 (r_move rfl) rfl rfl rfl rfl fun a10 H11 => ?_
    clear H10 a9
    refine wl1 H11 (r_len Try.underlying23 rfl) rfl rfl rfl rfl fun a11 H12 => ?_
    clear H11 a10
    refine wl1 H12 (r_lss rfl rfl) rfl rfl rfl rfl fun a12 H13 => ?_
    clear H12 a11
    refine wl_end ?_
    refine th_n ?_
    first | refine w_if H13 rfl (fun hc14 => ?_) (fun hc14 => ?_) | refine w_cond H13 rfl (fun hc14 => ?_) (fun hc14 => ?_)
    ·
      try simp only [decide_eq_true_eq, decide_eq_false_iff_not, Bool.or_eq_true, Bool.and_eq_true, Bool.or_eq_false_iff, Bool.and_eq_false_iff, Bool.not_eq_true', Bool.not_eq_false', Int.not_lt, Int.not_le, ne_eq, Decidable.not_not] at hc14
      obtain ⟨bA, oA, rfl⟩ := hA.form (by omega)
      obtain ⟨bB, oB, rfl⟩ := hB.form (by omega)
      have hkl : k < l.length := by omega
      have hkm : k < m.length := by omega
      obtain ⟨AA, cA, hcA, _, hEA⟩ := hA.rowAt hkl
      obtain ⟨AB, cB, hcB, _, hEB⟩ := hB.rowAt hkm
      refine wpIn_skip ?_
      refine th_n ?_
      refine wpIn_seq ?_
      refine wpIn_block ?_
      refine wpIn_seq ?_
      have hS0 := hN.sat
      have hNsz6 := hN.gr.size
      refine w_drawE (m := 8) (l0 := [(0, _), (1, _), (5, _)]) hfol H13 ⟨rfl, rfl, rfl, trivial⟩ (by kernel_rfl) ?_
      refine ⟨_, false, (fun σ ι w1 hg hd hon => by
          exact OpOK.sub (r := [(0, _), (1, _), (5, _)]) ⟨rfl, rfl, rfl, trivial⟩ (by
            exact OpOK.eq (r_move rfl))
          ), (fun _ _ _ _ _ _ h => h), (FreeR.no _), ?_⟩
      refine ⟨_, false, (fun σ ι w1 hg hd hon => by
          exact OpOK.sub (r := [(0, _), (1, _), (5, _)]) ⟨rfl, rfl, rfl, trivial⟩ (by
            exact OpOK.eq (r_move rfl))
          ), (fun _ _ _ _ _ _ h => h), (FreeR.no _), ?_⟩
      refine ⟨_, false, (fun σ ι w1 hg hd hon => by
          have f0 := hd 0 (by decide) _ rfl
          have f1 := hd 1 (by decide) _ rfl
          have e0 : σ 0 = _ := f0.1 trivial
          have e1 : σ 1 = _ := f1.1 trivial
          exact OpOK.sub (r := [(17, _), (18, _), (0, _), (1, _), (5, _)]) ⟨congrArg some e0, congrArg some e1, rfl, rfl, rfl, trivial⟩ (by
            exact OpOK.eq (r_idx Try.underlying23 sz29 rfl rfl (i := k) rfl (by omega)))
          ), (fun _ _ _ _ _ _ h => h), (FreeR.no _), ?_⟩
      refine ⟨_, false, (fun σ ι w1 hg hd hon => by
          have hN := hN.ofGr ((Gr.refl _).drew.trans hg)
          have f2 := hd 2 (by decide) _ rfl
          have e2 : σ 2 = _ := f2.1 trivial
          exact OpOK.sub (r := [(19, _), (0, _), (1, _), (5, _)]) ⟨congrArg some e2, rfl, rfl, rfl, trivial⟩ (by
            exact OpOK.eq (r_load sc29 rfl (hN.sat.cell hcA)))
          ), (fun _ _ _ _ _ _ h => h), (FreeR.no _), ?_⟩
      refine ⟨_, false, (fun σ ι w1 hg hd hon => by
          exact OpOK.sub (r := [(0, _), (1, _), (5, _)]) ⟨rfl, rfl, rfl, trivial⟩ (by
            exact OpOK.eq (r_move rfl))
          ), (fun _ _ _ _ _ _ h => h), (FreeR.no _), ?_⟩
      refine ⟨_, false, (fun σ ι w1 hg hd hon => by
          exact OpOK.sub (r := [(0, _), (1, _), (5, _)]) ⟨rfl, rfl, rfl, trivial⟩ (by
            exact OpOK.eq (r_move rfl))
          ), (fun _ _ _ _ _ _ h => h), (FreeR.no _), ?_⟩
      refine ⟨_, false, (fun σ ι w1 hg hd hon => by
          have f4 := hd 4 (by decide) _ rfl
          have f5 := hd 5 (by decide) _ rfl
          have e4 : σ 4 = _ := f4.1 trivial
          have e5 : σ 5 = _ := f5.1 trivial
          exact OpOK.sub (r := [(21, _), (22, _), (0, _), (1, _), (5, _)]) ⟨congrArg some e4, congrArg some e5, rfl, rfl, rfl, trivial⟩ (by
            exact OpOK.eq (r_idx Try.underlying23 sz29 rfl rfl (i := k) rfl (by omega)))
          ), (fun _ _ _ _ _ _ h => h), (FreeR.no _), ?_⟩
      refine ⟨_, false, (fun σ ι w1 hg hd hon => by
          have hN := hN.ofGr ((Gr.refl _).drew.trans hg)
          have f6 := hd 6 (by decide) _ rfl
          have e6 : σ 6 = _ := f6.1 trivial
          exact OpOK.sub (r := [(23, _), (0, _), (1, _), (5, _)]) ⟨congrArg some e6, rfl, rfl, rfl, trivial⟩ (by
            exact OpOK.eq (r_load sc29 rfl (hN.sat.cell hcB)))
          ), (fun _ _ _ _ _ _ h => h), (FreeR.no _), ?_⟩
      intro σ ι a13 w3 hgw3 H14 hd hap
      skip
      have hN0 := hN
      have hN := hN.ofGr ((Gr.refl _).drew.trans hgw3)
      have e3 : σ 3 = _ := (hd 3 (by decide) _ rfl).1 trivial
      have e7 : σ 7 = _ := (hd 7 (by decide) _ rfl).1 trivial
      replace H14 := H14.sub (r := [(20, _), (24, _), (0, _), (1, _), (5, _)]) ⟨congrArg some e3, congrArg some e7, rfl, rfl, rfl, trivial⟩
      clear hd
      clear hap
      refine wlc  H14 rfl rfl hb29 rfl (rints hN.sat hEA hEB) fun v w4 hR a14 H15 => ?_
      clear H14 a13
      obtain ⟨rfl, gw4⟩ := hR
      have hN := hN.ofGr gw4
      refine wl1 H15 (r_not rfl) rfl rfl rfl rfl fun a15 H16 => ?_
      clear H15 a14
      refine wl_end ?_
      refine th_n ?_
      first | refine w_if H16 rfl (fun hc26 => ?_) (fun hc26 => ?_) | refine w_cond H16 rfl (fun hc26 => ?_) (fun hc26 => ?_)
      ·
        try simp only [decide_eq_true_eq, decide_eq_false_iff_not, Bool.or_eq_true, Bool.and_eq_true, Bool.or_eq_false_iff, Bool.and_eq_false_iff, Bool.not_eq_true', Bool.not_eq_false', Int.not_lt, Int.not_le, ne_eq, Decidable.not_not] at hc26
        refine wpIn_seq ?_
        refine w_reg ?_
        refine wl1 H16 (r_assign rfl) rfl rfl rfl rfl fun a16 H17 => ?_
        clear H16 a15
        refine wl_end ?_
        refine th_n ?_
        refine wpIn_ret ?_
        refine bl_r ?_
        refine th_r ?_
        refine th_r ?_
        refine bl_r ?_
        refine th_r ?_
        refine fin_r H17 (res1 rfl H17 rfl) ?_
        exact ⟨by rw [decide_eq_false (ne_of_get hkl hkm hc26)], hN.gr⟩
      ·
        try simp only [decide_eq_true_eq, decide_eq_false_iff_not, Bool.or_eq_true, Bool.and_eq_true, Bool.or_eq_false_iff, Bool.and_eq_false_iff, Bool.not_eq_true', Bool.not_eq_false', Int.not_lt, Int.not_le, ne_eq, Decidable.not_not] at hc26
        refine wpIn_skip ?_
        refine bl_n ?_
        refine th_n ?_
        refine w_reg ?_
        refine wl1 H16 (r_move rfl) rfl rfl rfl rfl fun a16 H18 => ?_
        clear H16 a15
        first | refine wl1 H18 (r_addk rfl rfl (by simp only [InK]; omega)) rfl rfl rfl rfl fun a17 H19 => ?_ | refine wl1 H18 (r_add rfl rfl) rfl rfl rfl rfl fun a17 H19 => ?_
        clear H18 a16
        refine wl1 H19 (r_assign rfl) rfl rfl rfl rfl fun a18 H20 => ?_
        clear H19 a17
        refine wl_end ?_
        exact th_n ⟨k + 1, (by omega), H20.sub ⟨rfl, rfl, rfl, trivial⟩, hN, by omega, take_step hkl hkm hT hc26⟩
    ·
      try simp only [decide_eq_true_eq, decide_eq_false_iff_not, Bool.or_eq_true, Bool.and_eq_true, Bool.or_eq_false_iff, Bool.and_eq_false_iff, Bool.not_eq_true', Bool.not_eq_false', Int.not_lt, Int.not_le, ne_eq, Decidable.not_not] at hc14
      refine wpIn_exit ?_
      refine th_x ?_
      refine th_x ?_
      refine bl_hit ?_
      refine th_n ?_
      refine wpIn_seq ?_
      refine w_reg ?_
      refine wl1 H13 (r_assign rfl) rfl rfl rfl rfl fun a13 H21 => ?_
      clear H13 a12
      refine wl_end ?_
      refine th_n ?_
      refine wpIn_ret ?_
      refine fin_r H21 (res1 rfl H21 rfl) ?_
      exact ⟨by rw [decide_eq_true (eq_of_take (by omega) hlm hT)], hN.gr⟩
end Go.Proofs.Yteinlgobadlgnaa
