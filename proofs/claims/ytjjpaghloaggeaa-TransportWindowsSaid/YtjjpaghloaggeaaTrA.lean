/- Links: tags, equality, copies. -/
import Derived.Test.YtjjpaghloaggeaaTrP
import Derived.Test.YtjjpaghloaggeaaTy
set_option linter.unusedVariables false
set_option linter.unusedSimpArgs false
namespace Go.Proofs.Ytjjpaghloaggeaa
open Go.RowKit


theorem shr32 (n : Int) : n.fdiv (2 ^ min (Int.toNat 32) IntKind.u64.bits) = n / 4294967296 := by
  have e : min (Int.toNat 32) IntKind.u64.bits = 32 := by decide
  rw [e, Int.fdiv_eq_ediv_of_nonneg _ (by decide)]
  rfl
theorem ibits_xor (a b : Int) : ibits .xor .u64 a b = Go.bits .xor .u64 a b := by simp [ibits, Go.bits, bt2]
/-- A slice that a call has made, and that is written no more. -/
def Fresh {α : Type} (d : Kd α) (I : Im) (w : World) (xs : List α) (v : Value) (w' : World) : Prop :=
  ∃ J, New I w J w' ∧ ∃ A c, v = .slice A xs.length c ∧ xs.length ≤ c ∧ Els d J A xs
theorem Apx.fresh {α : Type} {d : Kd α} {I J : Im} {w W : World} {B : Nat} {e : TypeId} {v : Value} {xs : List α} (h : Apx d J W B e v xs) (hN : New I w J W) (hB : w.heap.size ≤ B) : Fresh d I w xs v W := by
  obtain ⟨K, A, c, hK, _, _, hv, hc, hE⟩ := h.freeze hN hB
  exact ⟨K, hK, A, c, hv, hc, hE⟩

set_option maxRecDepth 100000 in
set_option maxHeartbeats 400000 in
theorem rstep {h x : Int} {I : Im} {w : World} (hS : Sat I w)  :
    Ret Try.prog 49 [.int .u64 h, .int .u64 x] w (fun v w' => v = .int .u64 (dstep h x) ∧ Gr w w') := by
  refine ret_of (N := 17) Try.func49 rfl rfl rfl fun a0 H0 => ?_
  have hN := New.refl hS
  simp only [argsEnv, Nat.zero_add, Nat.reduceAdd] at H0
  refine wpIn_seq ?_
  refine w_reg ?_
  refine wl1 H0 (r_assign rfl) rfl rfl rfl rfl fun a1 H1 => ?_
  clear H0 a0
  refine wl_end ?_
  refine th_n ?_
  refine wpIn_seq ?_
  refine w_reg ?_
  refine wl1 H1 (r_move rfl) rfl rfl rfl rfl fun a2 H2 => ?_
  clear H1 a1
  refine wl1 H2 (r_move rfl) rfl rfl rfl rfl fun a3 H3 => ?_
  clear H2 a2
  refine wl1 H3 (r_xor rfl rfl) rfl rfl rfl rfl fun a4 H4 => ?_
  clear H3 a3
  first | refine wl1 H4 (r_mulk rfl rfl (by simp only [InK]; omega)) rfl rfl rfl rfl fun a5 H5 => ?_ | refine wl1 H4 (r_mul rfl rfl) rfl rfl rfl rfl fun a5 H5 => ?_
  clear H4 a4
  refine wl1 H5 (r_assign rfl) rfl rfl rfl rfl fun a6 H6 => ?_
  clear H5 a5
  refine wl_end ?_
  refine th_n ?_
  refine wpIn_seq ?_
  refine w_reg ?_
  refine wl1 H6 (r_move rfl) rfl rfl rfl rfl fun a7 H7 => ?_
  clear H6 a6
  refine wl1 H7 (r_move rfl) rfl rfl rfl rfl fun a8 H8 => ?_
  clear H7 a7
  refine wl1 H8 (r_shr rfl rfl (by omega)) rfl rfl rfl rfl fun a9 H9 => ?_
  clear H8 a8
  refine wl1 H9 (r_xor rfl rfl) rfl rfl rfl rfl fun a10 H10 => ?_
  clear H9 a9
  refine wl1 H10 (r_assign rfl) rfl rfl rfl rfl fun a11 H11 => ?_
  clear H10 a10
  refine wl_end ?_
  refine th_n ?_
  refine wpIn_seq ?_
  refine w_reg ?_
  refine wl1 H11 (r_move rfl) rfl rfl rfl rfl fun a12 H12 => ?_
  clear H11 a11
  first | refine wl1 H12 (r_mulk rfl rfl (by simp only [InK]; omega)) rfl rfl rfl rfl fun a13 H13 => ?_ | refine wl1 H12 (r_mul rfl rfl) rfl rfl rfl rfl fun a13 H13 => ?_
  clear H12 a12
  refine wl1 H13 (r_assign rfl) rfl rfl rfl rfl fun a14 H14 => ?_
  clear H13 a13
  refine wl_end ?_
  refine th_n ?_
  refine wpIn_ret ?_
  refine fin_r H14 (res1 rfl H14 rfl) ?_
  exact ⟨by unfold dstep; rw [ibits_xor, ibits_xor, shr32], hN.gr⟩
set_option maxRecDepth 100000 in
set_option maxHeartbeats 400000 in
theorem rwords {A : Option Addr} {l : List Int} {c : Nat} {I : Im} {w : World} (hS : Sat I w) (hA : Els (kInt .i64) I A l) :
    Ret Try.prog 50 [.slice A l.length c] w (fun v w' => v = .int .u64 (dwords l) ∧ Gr w w') := by
  have hl := hA.1
  refine ret_of (N := 23) Try.func50 rfl rfl rfl fun a0 H0 => ?_
  have hN := New.refl hS
  simp only [argsEnv, Nat.zero_add, Nat.reduceAdd] at H0
  refine wpIn_seq ?_
  refine w_reg ?_
  refine wl1 H0 (r_assign rfl) rfl rfl rfl rfl fun a1 H1 => ?_
  clear H0 a0
  refine wl_end ?_
  refine th_n ?_
  refine wpIn_seq ?_
  refine w_reg ?_
  refine wl1 H1 (r_assign rfl) rfl rfl rfl rfl fun a2 H2 => ?_
  clear H1 a1
  refine wl_end ?_
  refine th_n ?_
  refine wpIn_seq ?_
  refine wpIn_seq ?_
  refine w_reg ?_
  refine wl1 H2 (r_assign rfl) rfl rfl rfl rfl fun a3 H3 => ?_
  clear H2 a2
  refine wl_end ?_
  refine th_n ?_
  refine wpIn_block ?_
  refine w_loop (ι := Nat) (fun k => [(3, .int .u64 (dfold 512970876019 ((l.take k).map u64))), (4, .int .i64 (k : Int))]) (fun k W => New I w I W ∧ (k ≤ l.length)) (fun k => l.length - k) (l0 := [(0, _), (2, _)]) 0 H3 ⟨rfl, rfl, rfl, rfl, trivial⟩ ⟨hN, by omega⟩ ?_
  rintro k a4 w1 H4 ⟨hN, hk⟩
  clear H3 a3
  simp only [List.cons_append, List.nil_append] at H4
  refine wpIn_seq ?_
  refine wpIn_seq ?_
  refine w_reg ?_
  refine wl1 H4 (r_move rfl) rfl rfl rfl rfl fun a5 H5 => ?_
  clear H4 a4
  refine wl1 H5 (r_move rfl) rfl rfl rfl rfl fun a6 H6 => ?_
  clear H5 a5
  refine wl1 H6 (r_len Try.underlying78 rfl) rfl rfl rfl rfl fun a7 H7 => ?_
  clear H6 a6
  refine wl1 H7 (r_lss rfl rfl) rfl rfl rfl rfl fun a8 H8 => ?_
  clear H7 a7
  refine wl_end ?_
  refine th_n ?_
  first | refine w_if H8 rfl (fun hc8 => ?_) (fun hc8 => ?_) | refine w_cond H8 rfl (fun hc8 => ?_) (fun hc8 => ?_)
  ·
    try simp only [decide_eq_true_eq, decide_eq_false_iff_not, Bool.or_eq_true, Bool.and_eq_true, Bool.or_eq_false_iff, Bool.and_eq_false_iff, Bool.not_eq_true', Bool.not_eq_false', Int.not_lt, Int.not_le, ne_eq, Decidable.not_not] at hc8
    obtain ⟨bA, oA, rfl⟩ := hA.form (by omega)
    have hkw : k < l.length := by omega
    refine wpIn_skip ?_
    refine th_n ?_
    refine wpIn_seq ?_
    refine wpIn_block ?_
    refine w_reg ?_
    refine wl1 H8 (r_move rfl) rfl rfl rfl rfl fun a9 H9 => ?_
    clear H8 a8
    refine wl1 H9 (r_move rfl) rfl rfl rfl rfl fun a10 H10 => ?_
    clear H9 a9
    refine wl1 H10 (r_move rfl) rfl rfl rfl rfl fun a11 H11 => ?_
    clear H10 a10
    refine wl1 H11 (r_idx Try.underlying78 sz3 rfl rfl (i := k) rfl (by omega)) rfl rfl rfl rfl fun a12 H12 => ?_
    clear H11 a11
    refine wl1 H12 (r_load sc3 rfl (hN.sat.cell (hA.num (j := k) (by omega)).1)) rfl rfl rfl rfl fun a13 H13 => ?_
    clear H12 a12
    refine wl1 H13 (r_conv Try.underlying3 Try.underlying22 rfl) rfl rfl rfl rfl fun a14 H14 => ?_
    clear H13 a13
    refine wlc  H14 rfl rfl hb49 rfl (rstep hN.sat) fun v w2 hR a15 H15 => ?_
    clear H14 a14
    obtain ⟨rfl, gw2⟩ := hR
    have hN := hN.ofGr gw2
    rw [show dstep (dfold 512970876019 ((l.take k).map u64)) (IntKind.u64.wrap l[k]) = dfold 512970876019 ((l.take (k + 1)).map u64) from (dfold_take_u64 _ _ _ hkw).symm] at H15
    refine wl1 H15 (r_assign rfl) rfl rfl rfl rfl fun a16 H16 => ?_
    clear H15 a15
    refine wl_end ?_
    refine bl_n ?_
    refine th_n ?_
    refine w_reg ?_
    refine wl1 H16 (r_move rfl) rfl rfl rfl rfl fun a17 H17 => ?_
    clear H16 a16
    first | refine wl1 H17 (r_addk rfl rfl (by simp only [InK]; omega)) rfl rfl rfl rfl fun a18 H18 => ?_ | refine wl1 H17 (r_add rfl rfl) rfl rfl rfl rfl fun a18 H18 => ?_
    clear H17 a17
    refine wl1 H18 (r_assign rfl) rfl rfl rfl rfl fun a19 H19 => ?_
    clear H18 a18
    refine wl_end ?_
    exact th_n ⟨k + 1, (by omega), H19.sub ⟨rfl, rfl, rfl, rfl, trivial⟩, hN, by omega⟩
  ·
    try simp only [decide_eq_true_eq, decide_eq_false_iff_not, Bool.or_eq_true, Bool.and_eq_true, Bool.or_eq_false_iff, Bool.and_eq_false_iff, Bool.not_eq_true', Bool.not_eq_false', Int.not_lt, Int.not_le, ne_eq, Decidable.not_not] at hc8
    refine wpIn_exit ?_
    refine th_x ?_
    refine th_x ?_
    refine bl_hit ?_
    refine th_n ?_
    refine wpIn_seq ?_
    refine w_reg ?_
    refine wl1 H8 (r_move rfl) rfl rfl rfl rfl fun a9 H20 => ?_
    clear H8 a8
    refine wl1 H20 (r_move rfl) rfl rfl rfl rfl fun a10 H21 => ?_
    clear H20 a9
    refine wl1 H21 (r_len Try.underlying78 rfl) rfl rfl rfl rfl fun a11 H22 => ?_
    clear H21 a10
    first | refine wl1 H22 (r_convk Try.underlying3 Try.underlying22 rfl (by simp only [InK]; omega)) rfl rfl rfl rfl fun a12 H23 => ?_ | refine wl1 H22 (r_conv Try.underlying3 Try.underlying22 rfl) rfl rfl rfl rfl fun a12 H23 => ?_
    clear H22 a11
    rw [show k = l.length by omega, List.take_length] at H23
    refine wlc  H23 rfl rfl hb49 rfl (rstep hN.sat) fun v w3 hR a13 H24 => ?_
    clear H23 a12
    obtain ⟨rfl, gw3⟩ := hR
    have hN := hN.ofGr gw3
    refine wl1 H24 (r_assign rfl) rfl rfl rfl rfl fun a14 H25 => ?_
    clear H24 a13
    refine wl_end ?_
    refine th_n ?_
    refine wpIn_ret ?_
    refine fin_r H25 (res1 rfl H25 rfl) ?_
    exact ⟨rfl, hN.gr⟩
set_option maxRecDepth 100000 in
set_option maxHeartbeats 400000 in
theorem rtag {A : Option Addr} {l : List Int} {n c : Nat} {key : Int} {I : Im} {w : World} (hS : Sat I w) (hA : Els (kInt .i64) I A l) (hn : l.length = n) :
    Ret Try.prog 36 [.int .u64 key, .slice A n c] w (fun v w' => v = .int .u64 (dtag key l) ∧ Gr w w') := by
  subst hn
  refine ret_of (N := 9) Try.func36 rfl rfl rfl fun a0 H0 => ?_
  have hN := New.refl hS
  simp only [argsEnv, Nat.zero_add, Nat.reduceAdd] at H0
  refine wpIn_seq ?_
  refine w_reg ?_
  refine wl1 H0 (r_assign rfl) rfl rfl rfl rfl fun a1 H1 => ?_
  clear H0 a0
  refine wl_end ?_
  refine th_n ?_
  refine wpIn_seq ?_
  refine w_reg ?_
  refine wl1 H1 (r_move rfl) rfl rfl rfl rfl fun a2 H2 => ?_
  clear H1 a1
  refine wl1 H2 (r_move rfl) rfl rfl rfl rfl fun a3 H3 => ?_
  clear H2 a2
  refine wlc  H3 rfl rfl hb50 rfl (rwords hN.sat hA) fun v w1 hR a4 H4 => ?_
  clear H3 a3
  obtain ⟨rfl, gw1⟩ := hR
  have hN := hN.ofGr gw1
  refine wlc  H4 rfl rfl hb49 rfl (rstep hN.sat) fun v w2 hR a5 H5 => ?_
  clear H4 a4
  obtain ⟨rfl, gw2⟩ := hR
  have hN := hN.ofGr gw2
  refine wl1 H5 (r_assign rfl) rfl rfl rfl rfl fun a6 H6 => ?_
  clear H5 a5
  refine wl_end ?_
  refine th_n ?_
  refine wpIn_ret ?_
  refine fin_r H6 (res1 rfl H6 rfl) ?_
  exact ⟨rfl, hN.gr⟩

theorem Els.rowAt {α : Type} {d : Kd α} {I : Im} {b o : Nat} {xs : List (List α)} (h : Els (kSl d) I (some ⟨b, o, none⟩) xs) {j : Nat} (hj : j < xs.length) : ∃ A c, I.cell? ⟨b, o + j * 1, none⟩ = some (.slice A xs[j].length c) ∧ xs[j].length ≤ c ∧ Els d I A xs[j] := by
  obtain ⟨vs, ⟨A, c, hv, hc, hE⟩, hat⟩ := h.at_ (List.getElem?_eq_getElem hj)
  have := hat 0 (.slice A xs[j].length c) (by rw [hv]; rfl)
  exact ⟨A, c, this, hc, hE⟩
theorem take_step {α : Type} {l m : List α} {k : Nat} (hk : k < l.length) (hk' : k < m.length) (h : l.take k = m.take k) (he : l[k] = m[k]) : l.take (k + 1) = m.take (k + 1) := by
  rw [List.take_succ_eq_append_getElem hk, List.take_succ_eq_append_getElem hk', h, he]
theorem eq_of_take {α : Type} {l m : List α} {k : Nat} (hk : l.length ≤ k) (hl : l.length = m.length) (h : l.take k = m.take k) : l = m := by
  rwa [List.take_of_length_le hk, List.take_of_length_le (by omega)] at h
theorem ne_of_len {α : Type} {l m : List α} (h : l.length ≠ m.length) : l ≠ m := fun e => h (by rw [e])
theorem ne_of_get {α : Type} {l m : List α} {k : Nat} (hk : k < l.length) (hk' : k < m.length) (h : l[k] ≠ m[k]) : l ≠ m := fun e => h (by subst e; rfl)

set_option maxRecDepth 100000 in
set_option maxHeartbeats 400000 in
theorem rsame8 {A B : Option Addr} {c c2 : Nat} {l m : List Int} {I : Im} {w : World} (hS : Sat I w) (hA : Els (kInt .u8) I A l) (hB : Els (kInt .u8) I B m) :
    Ret Try.prog 27 [.slice A l.length c, .slice B m.length c2] w (fun v w' => v = .bool (decide (l = m)) ∧ Gr w w') := by
  have hl9 := hA.1
  refine ret_of (N := 26) Try.func27 rfl rfl rfl fun a0 H0 => ?_
  have hN := New.refl hS
  simp only [argsEnv, Nat.zero_add, Nat.reduceAdd] at H0
  refine wpIn_seq ?_
  refine w_reg ?_
  refine wl1 H0 (r_assign rfl) rfl rfl rfl rfl fun a1 H1 => ?_
  clear H0 a0
  refine wl_end ?_
  refine th_n ?_
  refine wpIn_seq ?_
  refine wpIn_seq ?_
  refine w_reg ?_
  refine wl1 H1 (r_move rfl) rfl rfl rfl rfl fun a2 H2 => ?_
  clear H1 a1
  refine wl1 H2 (r_len Try.underlying23 rfl) rfl rfl rfl rfl fun a3 H3 => ?_
  clear H2 a2
  refine wl1 H3 (r_move rfl) rfl rfl rfl rfl fun a4 H4 => ?_
  clear H3 a3
  refine wl1 H4 (r_len Try.underlying23 rfl) rfl rfl rfl rfl fun a5 H5 => ?_
  clear H4 a4
  refine wl1 H5 (r_neq rfl rfl) rfl rfl rfl rfl fun a6 H6 => ?_
  clear H5 a5
  refine wl_end ?_
  refine th_n ?_
  first | refine w_if H6 rfl (fun hc10 => ?_) (fun hc10 => ?_) | refine w_cond H6 rfl (fun hc10 => ?_) (fun hc10 => ?_)
  ·
    try simp only [decide_eq_true_eq, decide_eq_false_iff_not, Bool.or_eq_true, Bool.and_eq_true, Bool.or_eq_false_iff, Bool.and_eq_false_iff, Bool.not_eq_true', Bool.not_eq_false', Int.not_lt, Int.not_le, ne_eq, Decidable.not_not] at hc10
    refine wpIn_seq ?_
    refine w_reg ?_
    refine wl1 H6 (r_assign rfl) rfl rfl rfl rfl fun a7 H7 => ?_
    clear H6 a6
    refine wl_end ?_
    refine th_n ?_
    refine wpIn_ret ?_
    refine th_r ?_
    refine fin_r H7 (res1 rfl H7 rfl) ?_
    exact ⟨by rw [decide_eq_false (ne_of_len (by omega))], hN.gr⟩
  ·
    try simp only [decide_eq_true_eq, decide_eq_false_iff_not, Bool.or_eq_true, Bool.and_eq_true, Bool.or_eq_false_iff, Bool.and_eq_false_iff, Bool.not_eq_true', Bool.not_eq_false', Int.not_lt, Int.not_le, ne_eq, Decidable.not_not] at hc10
    have hlm : l.length = m.length := by omega
    refine wpIn_skip ?_
    refine th_n ?_
    refine wpIn_seq ?_
    refine wpIn_seq ?_
    refine w_reg ?_
    refine wl1 H6 (r_assign rfl) rfl rfl rfl rfl fun a7 H8 => ?_
    clear H6 a6
    refine wl_end ?_
    refine th_n ?_
    refine wpIn_block ?_
    refine w_loop (ι := Nat) (fun k => [(5, .int .i64 (k : Int))]) (fun k W => New I w I W ∧ (k ≤ l.length ∧ l.take k = m.take k)) (fun k => l.length - k) (l0 := [(0, _), (1, _)]) 0 H8 ⟨rfl, rfl, rfl, trivial⟩ ⟨hN, Nat.zero_le _, by simp⟩ ?_
    rintro k a8 w1 H9 ⟨hN, hk, hT⟩
    clear H8 a7
    simp only [List.cons_append, List.nil_append] at H9
    refine wpIn_seq ?_
    refine wpIn_seq ?_
    refine w_reg ?_
    refine wl1 H9 (r_move rfl) rfl rfl rfl rfl fun a9 H10 => ?_
    clear H9 a8
    refine wl1 H10 (r_move rfl) rfl rfl rfl rfl fun a10 H11 => ?_
    clear H10 a9
    refine wl1 H11 (r_len Try.underlying23 rfl) rfl rfl rfl rfl fun a11 H12 => ?_
    clear H11 a10
    refine wl1 H12 (r_lss rfl rfl) rfl rfl rfl rfl fun a12 H13 => ?_
    clear H12 a11
    refine wl_end ?_
    refine th_n ?_
    first | refine w_if H13 rfl (fun hc14 => ?_) (fun hc14 => ?_) | refine w_cond H13 rfl (fun hc14 => ?_) (fun hc14 => ?_)
    ·
      try simp only [decide_eq_true_eq, decide_eq_false_iff_not, Bool.or_eq_true, Bool.and_eq_true, Bool.or_eq_false_iff, Bool.and_eq_false_iff, Bool.not_eq_true', Bool.not_eq_false', Int.not_lt, Int.not_le, ne_eq, Decidable.not_not] at hc14
      obtain ⟨bA, oA, rfl⟩ := hA.form (by omega)
      obtain ⟨bB, oB, rfl⟩ := hB.form (by omega)
      have hkl : k < l.length := by omega
      have hkm : k < m.length := by omega
      refine wpIn_skip ?_
      refine th_n ?_
      refine wpIn_seq ?_
      refine wpIn_block ?_
      refine wpIn_seq ?_
      have hS0 := hN.sat
      have hNsz6 := hN.gr.size
      refine w_drawE (m := 8) (l0 := [(0, _), (1, _), (5, _)]) hfol H13 ⟨rfl, rfl, rfl, trivial⟩ (by kernel_rfl) ?_
      refine ⟨_, false, (fun σ ι w1 hg hd hon => by
          exact OpOK.sub (r := [(0, _), (1, _), (5, _)]) ⟨rfl, rfl, rfl, trivial⟩ (by
            exact OpOK.eq (r_move rfl))
          ), (fun _ _ _ _ _ _ h => h), (FreeR.no _), ?_⟩
      refine ⟨_, false, (fun σ ι w1 hg hd hon => by
          exact OpOK.sub (r := [(0, _), (1, _), (5, _)]) ⟨rfl, rfl, rfl, trivial⟩ (by
            exact OpOK.eq (r_move rfl))
          ), (fun _ _ _ _ _ _ h => h), (FreeR.no _), ?_⟩
      refine ⟨_, false, (fun σ ι w1 hg hd hon => by
          have f0 := hd 0 (by decide) _ rfl
          have f1 := hd 1 (by decide) _ rfl
          have e0 : σ 0 = _ := f0.1 trivial
          have e1 : σ 1 = _ := f1.1 trivial
          exact OpOK.sub (r := [(17, _), (18, _), (0, _), (1, _), (5, _)]) ⟨congrArg some e0, congrArg some e1, rfl, rfl, rfl, trivial⟩ (by
            exact OpOK.eq (r_idx Try.underlying23 sz5 rfl rfl (i := k) rfl (by omega)))
          ), (fun _ _ _ _ _ _ h => h), (FreeR.no _), ?_⟩
      refine ⟨_, false, (fun σ ι w1 hg hd hon => by
          have hN := hN.ofGr ((Gr.refl _).drew.trans hg)
          have f2 := hd 2 (by decide) _ rfl
          have e2 : σ 2 = _ := f2.1 trivial
          exact OpOK.sub (r := [(19, _), (0, _), (1, _), (5, _)]) ⟨congrArg some e2, rfl, rfl, rfl, trivial⟩ (by
            exact OpOK.eq (r_load sc5 rfl (hN.sat.cell (hA.num (j := k) (by omega)).1)))
          ), (fun _ _ _ _ _ _ h => h), (FreeR.no _), ?_⟩
      refine ⟨_, false, (fun σ ι w1 hg hd hon => by
          exact OpOK.sub (r := [(0, _), (1, _), (5, _)]) ⟨rfl, rfl, rfl, trivial⟩ (by
            exact OpOK.eq (r_move rfl))
          ), (fun _ _ _ _ _ _ h => h), (FreeR.no _), ?_⟩
      refine ⟨_, false, (fun σ ι w1 hg hd hon => by
          exact OpOK.sub (r := [(0, _), (1, _), (5, _)]) ⟨rfl, rfl, rfl, trivial⟩ (by
            exact OpOK.eq (r_move rfl))
          ), (fun _ _ _ _ _ _ h => h), (FreeR.no _), ?_⟩
      refine ⟨_, false, (fun σ ι w1 hg hd hon => by
          have f4 := hd 4 (by decide) _ rfl
          have f5 := hd 5 (by decide) _ rfl
          have e4 : σ 4 = _ := f4.1 trivial
          have e5 : σ 5 = _ := f5.1 trivial
          exact OpOK.sub (r := [(21, _), (22, _), (0, _), (1, _), (5, _)]) ⟨congrArg some e4, congrArg some e5, rfl, rfl, rfl, trivial⟩ (by
            exact OpOK.eq (r_idx Try.underlying23 sz5 rfl rfl (i := k) rfl (by omega)))
          ), (fun _ _ _ _ _ _ h => h), (FreeR.no _), ?_⟩
      refine ⟨_, false, (fun σ ι w1 hg hd hon => by
          have hN := hN.ofGr ((Gr.refl _).drew.trans hg)
          have f6 := hd 6 (by decide) _ rfl
          have e6 : σ 6 = _ := f6.1 trivial
          exact OpOK.sub (r := [(23, _), (0, _), (1, _), (5, _)]) ⟨congrArg some e6, rfl, rfl, rfl, trivial⟩ (by
            exact OpOK.eq (r_load sc5 rfl (hN.sat.cell (hB.num (j := k) (by omega)).1)))
          ), (fun _ _ _ _ _ _ h => h), (FreeR.no _), ?_⟩
      intro σ ι a13 w3 hgw3 H14 hd hap
      skip
      have hN0 := hN
      have hN := hN.ofGr ((Gr.refl _).drew.trans hgw3)
      have e3 : σ 3 = _ := (hd 3 (by decide) _ rfl).1 trivial
      have e7 : σ 7 = _ := (hd 7 (by decide) _ rfl).1 trivial
      replace H14 := H14.sub (r := [(20, _), (24, _), (0, _), (1, _), (5, _)]) ⟨congrArg some e3, congrArg some e7, rfl, rfl, rfl, trivial⟩
      clear hd
      clear hap
      refine wl1 H14 (r_neq rfl rfl) rfl rfl rfl rfl fun a14 H15 => ?_
      clear H14 a13
      refine wl_end ?_
      refine th_n ?_
      first | refine w_if H15 rfl (fun hc25 => ?_) (fun hc25 => ?_) | refine w_cond H15 rfl (fun hc25 => ?_) (fun hc25 => ?_)
      ·
        try simp only [decide_eq_true_eq, decide_eq_false_iff_not, Bool.or_eq_true, Bool.and_eq_true, Bool.or_eq_false_iff, Bool.and_eq_false_iff, Bool.not_eq_true', Bool.not_eq_false', Int.not_lt, Int.not_le, ne_eq, Decidable.not_not] at hc25
        refine wpIn_seq ?_
        refine w_reg ?_
        refine wl1 H15 (r_assign rfl) rfl rfl rfl rfl fun a15 H16 => ?_
        clear H15 a14
        refine wl_end ?_
        refine th_n ?_
        refine wpIn_ret ?_
        refine bl_r ?_
        refine th_r ?_
        refine th_r ?_
        refine bl_r ?_
        refine th_r ?_
        refine fin_r H16 (res1 rfl H16 rfl) ?_
        exact ⟨by rw [decide_eq_false (ne_of_get hkl hkm hc25)], hN.gr⟩
      ·
        try simp only [decide_eq_true_eq, decide_eq_false_iff_not, Bool.or_eq_true, Bool.and_eq_true, Bool.or_eq_false_iff, Bool.and_eq_false_iff, Bool.not_eq_true', Bool.not_eq_false', Int.not_lt, Int.not_le, ne_eq, Decidable.not_not] at hc25
        refine wpIn_skip ?_
        refine bl_n ?_
        refine th_n ?_
        refine w_reg ?_
        refine wl1 H15 (r_move rfl) rfl rfl rfl rfl fun a15 H17 => ?_
        clear H15 a14
        first | refine wl1 H17 (r_addk rfl rfl (by simp only [InK]; omega)) rfl rfl rfl rfl fun a16 H18 => ?_ | refine wl1 H17 (r_add rfl rfl) rfl rfl rfl rfl fun a16 H18 => ?_
        clear H17 a15
        refine wl1 H18 (r_assign rfl) rfl rfl rfl rfl fun a17 H19 => ?_
        clear H18 a16
        refine wl_end ?_
        exact th_n ⟨k + 1, (by omega), H19.sub ⟨rfl, rfl, rfl, trivial⟩, hN, by omega, take_step hkl hkm hT hc25⟩
    ·
      try simp only [decide_eq_true_eq, decide_eq_false_iff_not, Bool.or_eq_true, Bool.and_eq_true, Bool.or_eq_false_iff, Bool.and_eq_false_iff, Bool.not_eq_true', Bool.not_eq_false', Int.not_lt, Int.not_le, ne_eq, Decidable.not_not] at hc14
      refine wpIn_exit ?_
      refine th_x ?_
      refine th_x ?_
      refine bl_hit ?_
      refine th_n ?_
      refine wpIn_seq ?_
      refine w_reg ?_
      refine wl1 H13 (r_assign rfl) rfl rfl rfl rfl fun a13 H20 => ?_
      clear H13 a12
      refine wl_end ?_
      refine th_n ?_
      refine wpIn_ret ?_
      refine fin_r H20 (res1 rfl H20 rfl) ?_
      exact ⟨by rw [decide_eq_true (eq_of_take (by omega) hlm hT)], hN.gr⟩
set_option maxRecDepth 100000 in
set_option maxHeartbeats 400000 in
theorem rsameall {A B : Option Addr} {c c2 : Nat} {l m : List (List Int)} {I : Im} {w : World} (hS : Sat I w) (hA : Els (kSl (kInt .u8)) I A l) (hB : Els (kSl (kInt .u8)) I B m) :
    Ret Try.prog 34 [.slice A l.length c, .slice B m.length c2] w (fun v w' => v = .bool (decide (l = m)) ∧ Gr w w') := by
  have hl9 := hA.1
  refine ret_of (N := 27) Try.func34 rfl rfl rfl fun a0 H0 => ?_
  have hN := New.refl hS
  simp only [argsEnv, Nat.zero_add, Nat.reduceAdd] at H0
  refine wpIn_seq ?_
  refine w_reg ?_
  refine wl1 H0 (r_assign rfl) rfl rfl rfl rfl fun a1 H1 => ?_
  clear H0 a0
  refine wl_end ?_
  refine th_n ?_
  refine wpIn_seq ?_
  refine wpIn_seq ?_
  refine w_reg ?_
  refine wl1 H1 (r_move rfl) rfl rfl rfl rfl fun a2 H2 => ?_
  clear H1 a1
  refine wl1 H2 (r_len Try.underlying24 rfl) rfl rfl rfl rfl fun a3 H3 => ?_
  clear H2 a2
  refine wl1 H3 (r_move rfl) rfl rfl rfl rfl fun a4 H4 => ?_
  clear H3 a3
  refine wl1 H4 (r_len Try.underlying24 rfl) rfl rfl rfl rfl fun a5 H5 => ?_
  clear H4 a4
  refine wl1 H5 (r_neq rfl rfl) rfl rfl rfl rfl fun a6 H6 => ?_
  clear H5 a5
  refine wl_end ?_
  refine th_n ?_
  first | refine w_if H6 rfl (fun hc10 => ?_) (fun hc10 => ?_) | refine w_cond H6 rfl (fun hc10 => ?_) (fun hc10 => ?_)
  ·
    try simp only [decide_eq_true_eq, decide_eq_false_iff_not, Bool.or_eq_true, Bool.and_eq_true, Bool.or_eq_false_iff, Bool.and_eq_false_iff, Bool.not_eq_true', Bool.not_eq_false', Int.not_lt, Int.not_le, ne_eq, Decidable.not_not] at hc10
    refine wpIn_seq ?_
    refine w_reg ?_
    refine wl1 H6 (r_assign rfl) rfl rfl rfl rfl fun a7 H7 => ?_
    clear H6 a6
    refine wl_end ?_
    refine th_n ?_
    refine wpIn_ret ?_
    refine th_r ?_
    refine fin_r H7 (res1 rfl H7 rfl) ?_
    exact ⟨by rw [decide_eq_false (ne_of_len (by omega))], hN.gr⟩
  ·
    try simp only [decide_eq_true_eq, decide_eq_false_iff_not, Bool.or_eq_true, Bool.and_eq_true, Bool.or_eq_false_iff, Bool.and_eq_false_iff, Bool.not_eq_true', Bool.not_eq_false', Int.not_lt, Int.not_le, ne_eq, Decidable.not_not] at hc10
    have hlm : l.length = m.length := by omega
    refine wpIn_skip ?_
    refine th_n ?_
    refine wpIn_seq ?_
    refine wpIn_seq ?_
    refine w_reg ?_
    refine wl1 H6 (r_assign rfl) rfl rfl rfl rfl fun a7 H8 => ?_
    clear H6 a6
    refine wl_end ?_
    refine th_n ?_
    refine wpIn_block ?_
    refine w_loop (ι := Nat) (fun k => [(5, .int .i64 (k : Int))]) (fun k W => New I w I W ∧ (k ≤ l.length ∧ l.take k = m.take k)) (fun k => l.length - k) (l0 := [(0, _), (1, _)]) 0 H8 ⟨rfl, rfl, rfl, trivial⟩ ⟨hN, Nat.zero_le _, by simp⟩ ?_
    rintro k a8 w1 H9 ⟨hN, hk, hT⟩
    clear H8 a7
    simp only [List.cons_append, List.nil_append] at H9
    refine wpIn_seq ?_
    refine wpIn_seq ?_
    refine w_reg ?_
    refine wl1 H9 (r_move rfl) rfl rfl rfl rfl fun a9 H10 => ?_
    clear H9 a8
    refine wl1 H10 (r_move rfl) rfl rfl rfl rfl fun a10 H11 => ?_
    clear H10 a9
    refine wl1 H11 (r_len Try.underlying24 rfl) rfl rfl rfl rfl fun a11 H12 => ?_
    clear H11 a10
    refine wl1 H12 (r_lss rfl rfl) rfl rfl rfl rfl fun a12 H13 => ?_
    clear H12 a11
    refine wl_end ?_
    refine th_n ?_
    first | refine w_if H13 rfl (fun hc14 => ?_) (fun hc14 => ?_) | refine w_cond H13 rfl (fun hc14 => ?_) (fun hc14 => ?_)
    ·
      try simp only [decide_eq_true_eq, decide_eq_false_iff_not, Bool.or_eq_true, Bool.and_eq_true, Bool.or_eq_false_iff, Bool.and_eq_false_iff, Bool.not_eq_true', Bool.not_eq_false', Int.not_lt, Int.not_le, ne_eq, Decidable.not_not] at hc14
      obtain ⟨bA, oA, rfl⟩ := hA.form (by omega)
      obtain ⟨bB, oB, rfl⟩ := hB.form (by omega)
      have hkl : k < l.length := by omega
      have hkm : k < m.length := by omega
      obtain ⟨AA, cA, hcA, _, hEA⟩ := hA.rowAt hkl
      obtain ⟨AB, cB, hcB, _, hEB⟩ := hB.rowAt hkm
      refine wpIn_skip ?_
      refine th_n ?_
      refine wpIn_seq ?_
      refine wpIn_block ?_
      refine wpIn_seq ?_
      have hS0 := hN.sat
      have hNsz6 := hN.gr.size
      refine w_drawE (m := 8) (l0 := [(0, _), (1, _), (5, _)]) hfol H13 ⟨rfl, rfl, rfl, trivial⟩ (by kernel_rfl) ?_
      refine ⟨_, false, (fun σ ι w1 hg hd hon => by
          exact OpOK.sub (r := [(0, _), (1, _), (5, _)]) ⟨rfl, rfl, rfl, trivial⟩ (by
            exact OpOK.eq (r_move rfl))
          ), (fun _ _ _ _ _ _ h => h), (FreeR.no _), ?_⟩
      refine ⟨_, false, (fun σ ι w1 hg hd hon => by
          exact OpOK.sub (r := [(0, _), (1, _), (5, _)]) ⟨rfl, rfl, rfl, trivial⟩ (by
            exact OpOK.eq (r_move rfl))
          ), (fun _ _ _ _ _ _ h => h), (FreeR.no _), ?_⟩
      refine ⟨_, false, (fun σ ι w1 hg hd hon => by
          have f0 := hd 0 (by decide) _ rfl
          have f1 := hd 1 (by decide) _ rfl
          have e0 : σ 0 = _ := f0.1 trivial
          have e1 : σ 1 = _ := f1.1 trivial
          exact OpOK.sub (r := [(17, _), (18, _), (0, _), (1, _), (5, _)]) ⟨congrArg some e0, congrArg some e1, rfl, rfl, rfl, trivial⟩ (by
            exact OpOK.eq (r_idx Try.underlying24 sz23 rfl rfl (i := k) rfl (by omega)))
          ), (fun _ _ _ _ _ _ h => h), (FreeR.no _), ?_⟩
      refine ⟨_, false, (fun σ ι w1 hg hd hon => by
          have hN := hN.ofGr ((Gr.refl _).drew.trans hg)
          have f2 := hd 2 (by decide) _ rfl
          have e2 : σ 2 = _ := f2.1 trivial
          exact OpOK.sub (r := [(19, _), (0, _), (1, _), (5, _)]) ⟨congrArg some e2, rfl, rfl, rfl, trivial⟩ (by
            exact OpOK.eq (r_load sc23 rfl (hN.sat.cell hcA)))
          ), (fun _ _ _ _ _ _ h => h), (FreeR.no _), ?_⟩
      refine ⟨_, false, (fun σ ι w1 hg hd hon => by
          exact OpOK.sub (r := [(0, _), (1, _), (5, _)]) ⟨rfl, rfl, rfl, trivial⟩ (by
            exact OpOK.eq (r_move rfl))
          ), (fun _ _ _ _ _ _ h => h), (FreeR.no _), ?_⟩
      refine ⟨_, false, (fun σ ι w1 hg hd hon => by
          exact OpOK.sub (r := [(0, _), (1, _), (5, _)]) ⟨rfl, rfl, rfl, trivial⟩ (by
            exact OpOK.eq (r_move rfl))
          ), (fun _ _ _ _ _ _ h => h), (FreeR.no _), ?_⟩
      refine ⟨_, false, (fun σ ι w1 hg hd hon => by
          have f4 := hd 4 (by decide) _ rfl
          have f5 := hd 5 (by decide) _ rfl
          have e4 : σ 4 = _ := f4.1 trivial
          have e5 : σ 5 = _ := f5.1 trivial
          exact OpOK.sub (r := [(21, _), (22, _), (0, _), (1, _), (5, _)]) ⟨congrArg some e4, congrArg some e5, rfl, rfl, rfl, trivial⟩ (by
            exact OpOK.eq (r_idx Try.underlying24 sz23 rfl rfl (i := k) rfl (by omega)))
          ), (fun _ _ _ _ _ _ h => h), (FreeR.no _), ?_⟩
      refine ⟨_, false, (fun σ ι w1 hg hd hon => by
          have hN := hN.ofGr ((Gr.refl _).drew.trans hg)
          have f6 := hd 6 (by decide) _ rfl
          have e6 : σ 6 = _ := f6.1 trivial
          exact OpOK.sub (r := [(23, _), (0, _), (1, _), (5, _)]) ⟨congrArg some e6, rfl, rfl, rfl, trivial⟩ (by
            exact OpOK.eq (r_load sc23 rfl (hN.sat.cell hcB)))
          ), (fun _ _ _ _ _ _ h => h), (FreeR.no _), ?_⟩
      intro σ ι a13 w3 hgw3 H14 hd hap
      skip
      have hN0 := hN
      have hN := hN.ofGr ((Gr.refl _).drew.trans hgw3)
      have e3 : σ 3 = _ := (hd 3 (by decide) _ rfl).1 trivial
      have e7 : σ 7 = _ := (hd 7 (by decide) _ rfl).1 trivial
      replace H14 := H14.sub (r := [(20, _), (24, _), (0, _), (1, _), (5, _)]) ⟨congrArg some e3, congrArg some e7, rfl, rfl, rfl, trivial⟩
      clear hd
      clear hap
      refine wlc  H14 rfl rfl hb27 rfl (rsame8 hN.sat hEA hEB) fun v w4 hR a14 H15 => ?_
      clear H14 a13
      obtain ⟨rfl, gw4⟩ := hR
      have hN := hN.ofGr gw4
      refine wl1 H15 (r_not rfl) rfl rfl rfl rfl fun a15 H16 => ?_
      clear H15 a14
      refine wl_end ?_
      refine th_n ?_
      first | refine w_if H16 rfl (fun hc26 => ?_) (fun hc26 => ?_) | refine w_cond H16 rfl (fun hc26 => ?_) (fun hc26 => ?_)
      ·
        try simp only [decide_eq_true_eq, decide_eq_false_iff_not, Bool.or_eq_true, Bool.and_eq_true, Bool.or_eq_false_iff, Bool.and_eq_false_iff, Bool.not_eq_true', Bool.not_eq_false', Int.not_lt, Int.not_le, ne_eq, Decidable.not_not] at hc26
        refine wpIn_seq ?_
        refine w_reg ?_
        refine wl1 H16 (r_assign rfl) rfl rfl rfl rfl fun a16 H17 => ?_
        clear H16 a15
        refine wl_end ?_
        refine th_n ?_
        refine wpIn_ret ?_
        refine bl_r ?_
        refine th_r ?_
        refine th_r ?_
        refine bl_r ?_
        refine th_r ?_
        refine fin_r H17 (res1 rfl H17 rfl) ?_
        exact ⟨by rw [decide_eq_false (ne_of_get hkl hkm hc26)], hN.gr⟩
      ·
        try simp only [decide_eq_true_eq, decide_eq_false_iff_not, Bool.or_eq_true, Bool.and_eq_true, Bool.or_eq_false_iff, Bool.and_eq_false_iff, Bool.not_eq_true', Bool.not_eq_false', Int.not_lt, Int.not_le, ne_eq, Decidable.not_not] at hc26
        refine wpIn_skip ?_
        refine bl_n ?_
        refine th_n ?_
        refine w_reg ?_
        refine wl1 H16 (r_move rfl) rfl rfl rfl rfl fun a16 H18 => ?_
        clear H16 a15
        first | refine wl1 H18 (r_addk rfl rfl (by simp only [InK]; omega)) rfl rfl rfl rfl fun a17 H19 => ?_ | refine wl1 H18 (r_add rfl rfl) rfl rfl rfl rfl fun a17 H19 => ?_
        clear H18 a16
        refine wl1 H19 (r_assign rfl) rfl rfl rfl rfl fun a18 H20 => ?_
        clear H19 a17
        refine wl_end ?_
        exact th_n ⟨k + 1, (by omega), H20.sub ⟨rfl, rfl, rfl, trivial⟩, hN, by omega, take_step hkl hkm hT hc26⟩
    ·
      try simp only [decide_eq_true_eq, decide_eq_false_iff_not, Bool.or_eq_true, Bool.and_eq_true, Bool.or_eq_false_iff, Bool.and_eq_false_iff, Bool.not_eq_true', Bool.not_eq_false', Int.not_lt, Int.not_le, ne_eq, Decidable.not_not] at hc14
      refine wpIn_exit ?_
      refine th_x ?_
      refine th_x ?_
      refine bl_hit ?_
      refine th_n ?_
      refine wpIn_seq ?_
      refine w_reg ?_
      refine wl1 H13 (r_assign rfl) rfl rfl rfl rfl fun a13 H21 => ?_
      clear H13 a12
      refine wl_end ?_
      refine th_n ?_
      refine wpIn_ret ?_
      refine fin_r H21 (res1 rfl H21 rfl) ?_
      exact ⟨by rw [decide_eq_true (eq_of_take (by omega) hlm hT)], hN.gr⟩

theorem rsame8' {A B : Option Addr} {c c2 n n2 : Nat} {l m : List Int} {I : Im} {w : World} (hS : Sat I w) (hA : Els (kInt .u8) I A l) (hB : Els (kInt .u8) I B m) (hn : l.length = n) (hm : m.length = n2) :
    Ret Try.prog 27 [.slice A n c, .slice B n2 c2] w (fun v w' => v = .bool (decide (l = m)) ∧ Gr w w') := by subst hn hm; exact rsame8 hS hA hB
theorem rsameall' {A B : Option Addr} {c c2 n n2 : Nat} {l m : List (List Int)} {I : Im} {w : World} (hS : Sat I w) (hA : Els kB I A l) (hB : Els kB I B m) (hn : l.length = n) (hm : m.length = n2) :
    Ret Try.prog 34 [.slice A n c, .slice B n2 c2] w (fun v w' => v = .bool (decide (l = m)) ∧ Gr w w') := by subst hn hm; exact rsameall hS hA hB

set_option maxRecDepth 100000 in
set_option maxHeartbeats 400000 in
theorem clone_ret {A : Option Addr} {c : Nat} {l : List Int} {I : Im} {w : World} (hS : Sat I w) (hA : Els (kInt .u8) I A l) (hl : l.length ≤ 1048576) :
    Ret Try.prog 54 [.slice A l.length c] w (Fresh (kInt .u8) I w l) := by
  refine ret_of (N := 8) Try.func54 rfl rfl rfl fun a0 H0 => ?_
  have hN := New.refl hS
  simp only [argsEnv, Nat.zero_add, Nat.reduceAdd] at H0
  refine wpIn_seq ?_
  refine w_reg ?_
  refine wl1 H0 (r_assign rfl) rfl rfl rfl rfl fun a1 H1 => ?_
  clear H0 a0
  refine wl_end ?_
  refine th_n ?_
  refine wpIn_seq ?_
  refine wpIn_seq ?_
  refine w_reg ?_
  refine wl1 H1 (r_move rfl) rfl rfl rfl rfl fun a2 H2 => ?_
  clear H1 a1
  refine wl1 H2 (r_nilS Try.underlying23 rfl rfl) rfl rfl rfl rfl fun a3 H3 => ?_
  clear H2 a2
  refine wl_end ?_
  refine th_n ?_
  first | refine w_if H3 rfl (fun hc4 => ?_) (fun hc4 => ?_) | refine w_cond H3 rfl (fun hc4 => ?_) (fun hc4 => ?_)
  ·
    try simp only [decide_eq_true_eq, decide_eq_false_iff_not, Bool.or_eq_true, Bool.and_eq_true, Bool.or_eq_false_iff, Bool.and_eq_false_iff, Bool.not_eq_true', Bool.not_eq_false', Int.not_lt, Int.not_le, ne_eq, Decidable.not_not] at hc4
    have hl0 : l = [] := by
      cases A with
      | none => exact List.eq_nil_of_length_eq_zero (by rcases Nat.eq_zero_or_pos l.length with h | h; exact h; obtain ⟨_, _, e, _⟩ := hA.2 h; cases e)
      | some a => cases hc4
    refine wpIn_seq ?_
    refine w_reg ?_
    refine wl1 H3 (r_assign rfl) rfl rfl rfl rfl fun a4 H4 => ?_
    clear H3 a3
    refine wl_end ?_
    refine th_n ?_
    refine wpIn_ret ?_
    refine th_r ?_
    refine fin_r H4 (res1 rfl H4 rfl) ?_
    exact ⟨I, hN, none, 0, by rw [hl0]; rfl, by rw [hl0]; exact Nat.le_refl _, by rw [hl0]; exact Els.nil _ _ _⟩
  ·
    try simp only [decide_eq_true_eq, decide_eq_false_iff_not, Bool.or_eq_true, Bool.and_eq_true, Bool.or_eq_false_iff, Bool.and_eq_false_iff, Bool.not_eq_true', Bool.not_eq_false', Int.not_lt, Int.not_le, ne_eq, Decidable.not_not] at hc4
    refine wpIn_skip ?_
    refine th_n ?_
    refine wpIn_seq ?_
    refine w_reg ?_
    refine s_lit1 (cs := []) H3 Try.underlying23 sz5 zv5 rfl rfl rfl (by simp [Value.oneCell']) rfl hN fun w1 l5 K1 hKl5 hlel5 hN nw1 hgel5 a4 H5 => ?_
    clear H3 a3
    replace hA := hA.up nw1.le
    refine wl1 H5 (r_move rfl) rfl rfl rfl rfl fun a5 H6 => ?_
    clear H5 a4
    refine s_app (d := kInt .u8) (B := w.heap.size) H6 rfl rfl Try.underlying23 nf5 rfl (by decide) (by decide) rfl hN (.inr ⟨_, rfl, Els.nil _ _ _⟩) hA rfl (Nat.le_refl _) hN.gr.size (by simp; omega) fun vw2 w2 hO hOO hOO2 kw2 hN a6 H7 => ?_
    clear H6 a5
    rw [List.nil_append] at hO
    refine wl1 H7 (r_assign rfl) rfl rfl rfl rfl fun a7 H8 => ?_
    clear H7 a6
    refine wl_end ?_
    refine th_n ?_
    refine wpIn_ret ?_
    refine fin_r H8 (res1 rfl H8 rfl) ?_
    exact hO.fresh hN (Nat.le_refl _)
set_option maxRecDepth 100000 in
set_option maxHeartbeats 400000 in
theorem ttag {A B : Option Addr} {c m : Nat} {l ns : List Int} {key : Int} {I : Im} {w : World} (hS : Sat I w) (hA : Els (kInt .u8) I A l) (hB : Els (kInt .i64) I B ns) (hm : ns.length = m) (hl : l.length + ns.length ≤ 1048576) :
    Ret Try.prog 58 [.int .u64 key, .slice A l.length c, .slice B m m] w (fun v w' => v = .int .u64 (dtag key (ns ++ l)) ∧ Gr w w') := by
  subst hm
  refine ret_of (N := 24) Try.func58 rfl rfl rfl fun a0 H0 => ?_
  have hN := New.refl hS
  simp only [argsEnv, Nat.zero_add, Nat.reduceAdd] at H0
  refine wpIn_seq ?_
  refine w_reg ?_
  refine wl1 H0 (r_assign rfl) rfl rfl rfl rfl fun a1 H1 => ?_
  clear H0 a0
  refine wl_end ?_
  refine th_n ?_
  refine wpIn_seq ?_
  refine wpIn_seq ?_
  refine w_reg ?_
  refine wl1 H1 (r_move rfl) rfl rfl rfl rfl fun a2 H2 => ?_
  clear H1 a1
  refine wl1 H2 (r_len Try.underlying23 rfl) rfl rfl rfl rfl fun a3 H3 => ?_
  clear H2 a2
  refine wl1 H3 (r_move rfl) rfl rfl rfl rfl fun a4 H4 => ?_
  clear H3 a3
  refine wl_end ?_
  refine th_n ?_
  refine wpIn_block ?_
  refine w_loop (ι := (Nat × Value) × Im) (fun xJ => (fun x => [(11, .int .i64 (x.1 : Int)), (2, x.2)]) xJ.1) (fun xJ W => Im.le I xJ.2 ∧ New I w xJ.2 W ∧ (fun x (J : Im) => x.1 ≤ l.length ∧ Apx (kInt .i64) J W w.heap.size 3 x.2 (ns ++ l.take x.1)) xJ.1 xJ.2) (fun xJ => (fun x => l.length - x.1) xJ.1) (l0 := [(0, _), (6, _), (9, _), (10, _)]) ((0, _), I) H4 ⟨rfl, rfl, rfl, rfl, rfl, rfl, trivial⟩ ⟨Im.le.refl _, hN, Nat.zero_le _, .inr ⟨B, by simp, by simpa using hB⟩⟩ ?_
  rintro ⟨⟨k, u⟩, J1⟩ a5 w1 H5 ⟨hleJ1, hN, hk, hO⟩
  clear H4 a4
  simp only [List.cons_append, List.nil_append] at H5
  try dsimp only at hleJ1
  try dsimp only at hN
  replace hA := hA.up hleJ1
  replace hB := hB.up hleJ1
  simp only at hk hO H5
  try dsimp only at hO
  try dsimp only at hk
  refine wpIn_seq ?_
  refine w_reg ?_
  refine wl1 H5 (r_lss rfl rfl) rfl rfl rfl rfl fun a6 H6 => ?_
  clear H5 a5
  refine wl_end ?_
  refine th_n ?_
  refine wpIn_seq ?_
  first | refine w_if H6 rfl (fun hc12 => ?_) (fun hc12 => ?_) | refine w_cond H6 rfl (fun hc12 => ?_) (fun hc12 => ?_)
  ·
    try simp only [decide_eq_true_eq, decide_eq_false_iff_not, Bool.or_eq_true, Bool.and_eq_true, Bool.or_eq_false_iff, Bool.and_eq_false_iff, Bool.not_eq_true', Bool.not_eq_false', Int.not_lt, Int.not_le, ne_eq, Decidable.not_not] at hc12
    obtain ⟨bA, oA, rfl⟩ := hA.form (by omega)
    have hkl : k < l.length := by omega
    refine wpIn_skip ?_
    refine th_n ?_
    refine wpIn_seq ?_
    refine wpIn_block ?_
    refine wpIn_seq ?_
    refine w_reg ?_
    refine wl1 H6 (r_idx Try.underlying23 sz5 rfl rfl (i := k) rfl (by omega)) rfl rfl rfl rfl fun a7 H7 => ?_
    clear H6 a6
    refine wl1 H7 (r_load sc5 rfl (hN.sat.cell (hA.num (j := k) hkl).1)) rfl rfl rfl rfl fun a8 H8 => ?_
    clear H7 a7
    have hb8 := (hA.num (j := k) hkl).2
    simp only [InK] at hb8
    refine wl1 H8 (r_assign rfl) rfl rfl rfl rfl fun a9 H9 => ?_
    clear H8 a8
    refine wl_end ?_
    refine th_n ?_
    refine w_reg ?_
    refine wl1 H9 (r_move rfl) rfl rfl rfl rfl fun a10 H10 => ?_
    clear H9 a9
    refine wl1 H10 (r_move rfl) rfl rfl rfl rfl fun a11 H11 => ?_
    clear H10 a10
    first | refine wl1 H11 (r_convk Try.underlying5 Try.underlying3 rfl (by simp only [InK]; omega)) rfl rfl rfl rfl fun a12 H12 => ?_ | refine wl1 H11 (r_conv Try.underlying5 Try.underlying3 rfl) rfl rfl rfl rfl fun a12 H12 => ?_
    clear H11 a11
    refine s_lit1 (cs := [_]) H12 Try.underlying78 sz3 zv3 rfl rfl rfl (by simp [Value.oneCell']) rfl hN fun w2 l18 K2 hKl18 hlel18 hN nw2 hgel18 a13 H13 => ?_
    clear H12 a12
    replace hA := hA.up nw2.le
    replace hB := hB.up nw2.le
    replace hO := hO.next nw2
    replace hleJ1 := hleJ1.trans nw2.le
    have hE18 : Els (kInt .i64) K2 (some ⟨l18, 0, none⟩) [l[k]] := Els.nums hKl18 (by simp) (by simp only [List.mem_singleton, InK]; rintro y rfl; omega)
    refine s_app (B := w.heap.size) H13 rfl rfl Try.underlying78 nf3 rfl (by decide) (by decide) rfl hN hO hE18 rfl (Nat.le_refl _) hN.gr.size (by simp; omega) fun vw3 w3 hO hOO hOO2 kw3 hN a14 H14 => ?_
    clear H13 a13
    refine wl1 H14 (r_assign rfl) rfl rfl rfl rfl fun a15 H15 => ?_
    clear H14 a14
    refine wl_end ?_
    refine bl_n ?_
    refine th_n ?_
    refine w_reg ?_
    first | refine wl1 H15 (r_addk rfl rfl (by simp only [InK]; omega)) rfl rfl rfl rfl fun a16 H16 => ?_ | refine wl1 H15 (r_add rfl rfl) rfl rfl rfl rfl fun a16 H16 => ?_
    clear H15 a15
    refine wl1 H16 (r_move rfl) rfl rfl rfl rfl fun a17 H17 => ?_
    clear H16 a16
    refine wl_end ?_
    exact th_n ⟨((k + 1, _), K2), (by show l.length - (k + 1) < l.length - k; omega), H17.sub ⟨rfl, rfl, rfl, rfl, rfl, rfl, trivial⟩, hleJ1, hN, by show k + 1 ≤ l.length; omega, by show Apx _ _ _ _ _ _ (ns ++ l.take (k + 1)); rw [List.take_succ_eq_append_getElem hkl, ← List.append_assoc]; exact hO⟩
  ·
    try simp only [decide_eq_true_eq, decide_eq_false_iff_not, Bool.or_eq_true, Bool.and_eq_true, Bool.or_eq_false_iff, Bool.and_eq_false_iff, Bool.not_eq_true', Bool.not_eq_false', Int.not_lt, Int.not_le, ne_eq, Decidable.not_not] at hc12
    refine wpIn_exit ?_
    refine th_x ?_
    refine th_x ?_
    refine bl_hit ?_
    refine th_n ?_
    refine wpIn_seq ?_
    refine w_reg ?_
    rw [List.take_of_length_le (show l.length ≤ k by omega)] at hO
    obtain ⟨Kz3, Az, cAz, hN, hleKz3, hsmKz3, rfl, hcAz, hEz⟩ := hO.freeze hN (Nat.le_refl _)
    replace hA := hA.up hleKz3
    replace hB := hB.up hleKz3
    replace hleJ1 := hleJ1.trans hleKz3
    refine wl1 H6 (r_move rfl) rfl rfl rfl rfl fun a7 H18 => ?_
    clear H6 a6
    refine wl1 H18 (r_move rfl) rfl rfl rfl rfl fun a8 H19 => ?_
    clear H18 a7
    refine wlc  H19 rfl rfl hb59 rfl (tag_ret' hN.sat hEz rfl) fun v w5 hR a9 H20 => ?_
    clear H19 a8
    obtain ⟨rfl, gw5⟩ := hR
    have hN := hN.ofGr gw5
    refine wl1 H20 (r_assign rfl) rfl rfl rfl rfl fun a10 H21 => ?_
    clear H20 a9
    refine wl_end ?_
    refine th_n ?_
    refine wpIn_ret ?_
    refine fin_r H21 (res1 rfl H21 rfl) ?_
    exact ⟨rfl, hN.gr⟩
set_option maxRecDepth 100000 in
set_option maxHeartbeats 400000 in
theorem rtag50 {A : Option Addr} {c : Nat} {p : Pk} {key : Int} {I : Im} {w : World} (hS : Sat I w) (hP : PkAt I p A c) (hl : p.data.length ≤ 1048000) :
    Ret Try.prog 17 [.int .u64 key, .agg #[.int .i64 p.seq, .int .i64 p.ack, .slice A p.data.length c, .int .u64 p.chk]] w (fun v w' => v = .int .u64 (ptag key p) ∧ Gr w w') := by
  have hA := hP.de
  refine ret_of (N := 34) Try.func17 rfl rfl rfl fun a0 H0 => ?_
  have hN := New.refl hS
  simp only [argsEnv, Nat.zero_add, Nat.reduceAdd] at H0
  refine wpIn_seq ?_
  refine w_reg ?_
  refine s_box H0 rfl rfl hN fun w1 b3 hN gw1 hB3 hgeb3 heb3 a1 H1 => ?_
  clear H0 a0
  replace hB3 : Box _ _ _ [_, _, _, _] 28 := hB3
  refine wl1 H1 (r_assign rfl) rfl rfl rfl rfl fun a2 H2 => ?_
  clear H1 a1
  refine wl_end ?_
  refine th_n ?_
  refine wpIn_seq ?_
  refine w_reg ?_
  refine wl1 H2 (r_fld fld28_0 rfl) rfl rfl rfl rfl fun a3 H3 => ?_
  clear H2 a2
  refine wl1 H3 (r_load sc3 rfl (hB3.cell rfl)) rfl rfl rfl rfl fun a4 H4 => ?_
  clear H3 a3
  refine wl1 H4 (r_fld fld28_1 rfl) rfl rfl rfl rfl fun a5 H5 => ?_
  clear H4 a4
  refine wl1 H5 (r_load sc3 rfl (hB3.cell rfl)) rfl rfl rfl rfl fun a6 H6 => ?_
  clear H5 a5
  refine wl1 H6 (r_fld fld28_2 rfl) rfl rfl rfl rfl fun a7 H7 => ?_
  clear H6 a6
  refine wl1 H7 (r_load sc23 rfl (hB3.cell rfl)) rfl rfl rfl rfl fun a8 H8 => ?_
  clear H7 a7
  refine wl1 H8 (r_len Try.underlying23 rfl) rfl rfl rfl rfl fun a9 H9 => ?_
  clear H8 a8
  refine s_lit1 (cs := [_, _, _]) H9 Try.underlying78 sz3 zv3 rfl rfl rfl (by simp [Value.oneCell']) rfl hN fun w2 l14 K2 hKl14 hlel14 hN nw2 hgel14 a10 H10 => ?_
  clear H9 a9
  replace hA := hA.up nw2.le
  replace hB3 := hB3.next nw2
  have hE14 : Els (kInt .i64) K2 (some ⟨l14, 0, none⟩) [p.seq, p.ack, (p.data.length : Int)] := Els.nums hKl14 (by simp) (by have h1 := hP.ks; have h2 := hP.ka; simp only [InK] at h1 h2; simp only [List.mem_cons, List.mem_nil_iff, or_false, InK]; rintro y (rfl | rfl | rfl) <;> omega)
  refine wl1 H10 (r_assign rfl) rfl rfl rfl rfl fun a11 H11 => ?_
  clear H10 a10
  refine wl_end ?_
  refine th_n ?_
  refine wpIn_seq ?_
  refine wpIn_seq ?_
  refine w_reg ?_
  obtain ⟨B9, hBw⟩ : ∃ B, B = (w2).heap.size := ⟨_, rfl⟩
  have hlt3b := hB3.lt
  have hwB : w.heap.size ≤ B9 := by rw [hBw]; exact hN.gr.size
  have hszB : B9 ≤ (w2).heap.size := Nat.le_of_eq hBw
  refine wl1 H11 (r_assign rfl) rfl rfl rfl rfl fun a12 H12 => ?_
  clear H11 a11
  refine wl_end ?_
  refine th_n ?_
  refine wpIn_block ?_
  refine w_loop (ι := (Nat × Value) × Im) (fun xJ => (fun x => [(6, .int .i64 (x.1 : Int)), (5, x.2)]) xJ.1) (fun xJ W => Im.le K2 xJ.2 ∧ New I w xJ.2 W ∧ (fun x (J : Im) => x.1 ≤ p.data.length ∧ Box J W b3 [.int .i64 p.seq, .int .i64 p.ack, .slice A p.data.length c, .int .u64 p.chk] 28 ∧ B9 ≤ W.heap.size ∧ Apx (kInt .i64) J W B9 3 x.2 ([p.seq, p.ack, (p.data.length : Int)] ++ p.data.take x.1)) xJ.1 xJ.2) (fun xJ => (fun x => p.data.length - x.1) xJ.1) (l0 := [(0, _), (3, _), (4, _)]) ((0, _), K2) H12 ⟨rfl, rfl, rfl, rfl, rfl, trivial⟩ ⟨Im.le.refl _, hN, Nat.zero_le _, hB3, hszB, .inr ⟨some ⟨l14, 0, none⟩, by simp, by simpa using hE14⟩⟩ ?_
  rintro ⟨⟨k, u⟩, J3⟩ a13 w3 H13 ⟨hleJ1, hN, hk, hB3, hszB, hO⟩
  clear H12 a12
  simp only [List.cons_append, List.nil_append] at H13
  try dsimp only at hleJ1
  try dsimp only at hN
  replace hA := hA.up hleJ1
  replace hE14 := hE14.up hleJ1
  simp only at hk hB3 hszB hO H13
  try dsimp only at hB3
  try dsimp only at hO
  try dsimp only at hk
  try dsimp only at hszB
  refine wpIn_seq ?_
  refine wpIn_seq ?_
  refine w_reg ?_
  refine wl1 H13 (r_move rfl) rfl rfl rfl rfl fun a14 H14 => ?_
  clear H13 a13
  refine wl1 H14 (r_fld fld28_2 rfl) rfl rfl rfl rfl fun a15 H15 => ?_
  clear H14 a14
  refine wl1 H15 (r_load sc23 rfl (hB3.cell rfl)) rfl rfl rfl rfl fun a16 H16 => ?_
  clear H15 a15
  refine wl1 H16 (r_len Try.underlying23 rfl) rfl rfl rfl rfl fun a17 H17 => ?_
  clear H16 a16
  refine wl1 H17 (r_lss rfl rfl) rfl rfl rfl rfl fun a18 H18 => ?_
  clear H17 a17
  refine wl_end ?_
  refine th_n ?_
  first | refine w_if H18 rfl (fun hc19 => ?_) (fun hc19 => ?_) | refine w_cond H18 rfl (fun hc19 => ?_) (fun hc19 => ?_)
  ·
    try simp only [decide_eq_true_eq, decide_eq_false_iff_not, Bool.or_eq_true, Bool.and_eq_true, Bool.or_eq_false_iff, Bool.and_eq_false_iff, Bool.not_eq_true', Bool.not_eq_false', Int.not_lt, Int.not_le, ne_eq, Decidable.not_not] at hc19
    obtain ⟨bA, oA, rfl⟩ := hA.form (by omega)
    have hkl : k < p.data.length := by omega
    refine wpIn_skip ?_
    refine th_n ?_
    refine wpIn_seq ?_
    refine wpIn_block ?_
    refine w_reg ?_
    refine wl1 H18 (r_move rfl) rfl rfl rfl rfl fun a19 H19 => ?_
    clear H18 a18
    refine wl1 H19 (r_fld fld28_2 rfl) rfl rfl rfl rfl fun a20 H20 => ?_
    clear H19 a19
    refine wl1 H20 (r_load sc23 rfl (hB3.cell rfl)) rfl rfl rfl rfl fun a21 H21 => ?_
    clear H20 a20
    refine wl1 H21 (r_move rfl) rfl rfl rfl rfl fun a22 H22 => ?_
    clear H21 a21
    refine wl1 H22 (r_idx Try.underlying23 sz5 rfl rfl (i := k) rfl (by omega)) rfl rfl rfl rfl fun a23 H23 => ?_
    clear H22 a22
    refine wl1 H23 (r_load sc5 rfl (hN.sat.cell (hA.num (j := k) hkl).1)) rfl rfl rfl rfl fun a24 H24 => ?_
    clear H23 a23
    have hb8 := (hA.num (j := k) hkl).2
    simp only [InK] at hb8
    first | refine wl1 H24 (r_convk Try.underlying5 Try.underlying3 rfl (by simp only [InK]; omega)) rfl rfl rfl rfl fun a25 H25 => ?_ | refine wl1 H24 (r_conv Try.underlying5 Try.underlying3 rfl) rfl rfl rfl rfl fun a25 H25 => ?_
    clear H24 a24
    refine s_lit1 (cs := [_]) H25 Try.underlying78 sz3 zv3 rfl rfl rfl (by simp [Value.oneCell']) rfl hN fun w4 l29 K4 hKl29 hlel29 hN nw4 hgel29 a26 H26 => ?_
    clear H25 a25
    replace hA := hA.up nw4.le
    replace hE14 := hE14.up nw4.le
    replace hB3 := hB3.next nw4
    replace hO := hO.next nw4
    replace hleJ1 := hleJ1.trans nw4.le
    replace hszB := Nat.le_trans hszB nw4.gr.size
    have hE29 : Els (kInt .i64) K4 (some ⟨l29, 0, none⟩) [p.data[k]] := Els.nums hKl29 (by simp) (by simp only [List.mem_singleton, InK]; rintro y rfl; omega)
    refine s_app (B := B9) H26 rfl rfl Try.underlying78 nf3 rfl (by decide) (by decide) rfl hN hO hE29 rfl hwB hszB (by simp; omega) fun vw5 w5 hO hOO hOO2 kw5 hN a27 H27 => ?_
    clear H26 a26
    replace hB3 := hB3.keep kw5 (by omega)
    replace hszB := Nat.le_trans hszB kw5.size
    refine wl1 H27 (r_assign rfl) rfl rfl rfl rfl fun a28 H28 => ?_
    clear H27 a27
    refine wl_end ?_
    refine bl_n ?_
    refine th_n ?_
    refine w_reg ?_
    refine wl1 H28 (r_move rfl) rfl rfl rfl rfl fun a29 H29 => ?_
    clear H28 a28
    first | refine wl1 H29 (r_addk rfl rfl (by simp only [InK]; omega)) rfl rfl rfl rfl fun a30 H30 => ?_ | refine wl1 H29 (r_add rfl rfl) rfl rfl rfl rfl fun a30 H30 => ?_
    clear H29 a29
    refine wl1 H30 (r_assign rfl) rfl rfl rfl rfl fun a31 H31 => ?_
    clear H30 a30
    refine wl_end ?_
    exact th_n ⟨((k + 1, _), K4), (by show p.data.length - (k + 1) < p.data.length - k; omega), H31.sub ⟨rfl, rfl, rfl, rfl, rfl, trivial⟩, hleJ1, hN, by show k + 1 ≤ p.data.length; omega, hB3, hszB, by show Apx _ _ _ _ _ _ (_ ++ p.data.take (k + 1)); rw [List.take_succ_eq_append_getElem hkl, ← List.append_assoc]; exact hO⟩
  ·
    try simp only [decide_eq_true_eq, decide_eq_false_iff_not, Bool.or_eq_true, Bool.and_eq_true, Bool.or_eq_false_iff, Bool.and_eq_false_iff, Bool.not_eq_true', Bool.not_eq_false', Int.not_lt, Int.not_le, ne_eq, Decidable.not_not] at hc19
    refine wpIn_exit ?_
    refine th_x ?_
    refine th_x ?_
    refine bl_hit ?_
    refine th_n ?_
    refine wpIn_seq ?_
    refine w_reg ?_
    rw [List.take_of_length_le (show p.data.length ≤ k by omega)] at hO
    obtain ⟨Kz5, Az, cAz, hN, hleKz5, hsmKz5, rfl, hcAz, hEz⟩ := hO.freeze hN hwB
    replace hB3 := hB3.same (hsmKz5 _ (by omega))
    replace hA := hA.up hleKz5
    replace hE14 := hE14.up hleKz5
    replace hleJ1 := hleJ1.trans hleKz5
    refine wl1 H18 (r_move rfl) rfl rfl rfl rfl fun a19 H32 => ?_
    clear H18 a18
    refine wl1 H32 (r_move rfl) rfl rfl rfl rfl fun a20 H33 => ?_
    clear H32 a19
    refine wlc  H33 rfl rfl hb36 rfl (rtag hN.sat hEz rfl) fun v w7 hR a21 H34 => ?_
    clear H33 a20
    obtain ⟨rfl, gw7⟩ := hR
    have hN := hN.ofGr gw7
    replace hB3 := hB3.gr gw7
    replace hszB := Nat.le_trans hszB gw7.size
    refine wl1 H34 (r_assign rfl) rfl rfl rfl rfl fun a22 H35 => ?_
    clear H34 a21
    refine wl_end ?_
    refine th_n ?_
    refine wpIn_ret ?_
    refine fin_r H35 (res1 rfl H35 rfl) ?_
    exact ⟨rfl, hN.gr⟩
end Go.Proofs.Ytjjpaghloaggeaa
