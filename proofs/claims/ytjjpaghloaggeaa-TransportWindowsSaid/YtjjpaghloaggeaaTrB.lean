/- Links: what they hold, packets. -/
import Derived.Test.YtjjpaghloaggeaaTrA
set_option linter.unusedVariables false
set_option linter.unusedSimpArgs false
namespace Go.Proofs.Ytjjpaghloaggeaa
open Go.RowKit


theorem shortB_iff {l : List (List Int)} : shortB l = true ↔ ∀ d ∈ l, d.length ≤ 256 := by simp [shortB]
def PkPost (I : Im) (w : World) (q : Pk) (v : Value) (w' : World) : Prop := ∃ J, New I w J w' ∧ ∃ A c, v = .agg #[.int .i64 q.seq, .int .i64 q.ack, .slice A q.data.length c, .int .u64 q.chk] ∧ PkAt J q A c
def PackedPost (I : Im) (w : World) (q : Pk) (e : Int) (v : Value) (w' : World) : Prop := ∃ J, New I w J w' ∧ ∃ A c, v = .agg #[.int .i64 q.seq, .int .i64 q.ack, .slice A q.data.length c, .int .u64 q.chk, .int .i64 e] ∧ PkAt J q A c
def PackPost (I : Im) (w : World) (q : Pk) (e : Int) (v : Value) (w' : World) : Prop := ∃ J, New I w J w' ∧ ∃ A c, v = .tuple #[.agg #[.int .i64 q.seq, .int .i64 q.ack, .slice A q.data.length c, .int .u64 q.chk], .int .i64 e] ∧ PkAt J q A c
def LinkPost (I : Im) (w : World) (x : Lk) (e : Int) (v : Value) (w' : World) : Prop := ∃ J, New I w J w' ∧ ∃ A1 c1 A2 c2, v = .tuple #[.agg #[.int .u64 x.key, .slice A1 x.out.length c1, .int .i64 x.base, .slice A2 x.inn.length c2, .int .i64 x.rcv], .int .i64 e] ∧ LkAt J x A1 c1 A2 c2
def LinkedPost (I : Im) (w : World) (x : Lk) (e : Int) (v : Value) (w' : World) : Prop := ∃ J, New I w J w' ∧ ∃ A1 c1 A2 c2, v = .agg #[.int .u64 x.key, .slice A1 x.out.length c1, .int .i64 x.base, .slice A2 x.inn.length c2, .int .i64 x.rcv, .int .i64 e] ∧ LkAt J x A1 c1 A2 c2
def CL (l : List Int) (K : Im) (u : Value) : Prop := ∃ A c, u = .slice A l.length c ∧ l.length ≤ c ∧ Els (kInt .u8) K A l
theorem cloneΦ {A : Option Addr} {c : Nat} {l : List Int} {I : Im} {w : World} (hS : Sat I w) (hA : Els (kInt .u8) I A l) (hl : l.length ≤ 1048576) : Ret Try.prog 54 [.slice A l.length c] w (fun u w' => ∃ K, New I w K w' ∧ CL l K u) := clone_ret hS hA hl
theorem InK.xor (a b : Int) : InK .u64 (ibits .xor .u64 a b) := inK_wrap _ _
theorem ptag_inK (k : Int) (p : Pk) : InK .u64 (ptag k p) := dtag_inK _ _
theorem nil_or {α : Type} (l : List α) (h : l.length = 0) : l = [] := List.eq_nil_of_length_eq_zero h

set_option maxRecDepth 100000 in
set_option maxHeartbeats 400000 in
theorem vlong {A : Option Addr} {c n : Nat} {I : Im} {w : World} (hS : Sat I w)  :
    Ret Try.prog 37 [.slice A n c] w (fun v w' => v = .bool (decide (256 < n)) ∧ Gr w w') := by
  refine ret_of (N := 6) Try.func37 rfl rfl rfl fun a0 H0 => ?_
  have hN := New.refl hS
  simp only [argsEnv, Nat.zero_add, Nat.reduceAdd] at H0
  refine wpIn_seq ?_
  refine w_reg ?_
  refine wl1 H0 (r_assign rfl) rfl rfl rfl rfl fun a1 H1 => ?_
  clear H0 a0
  refine wl_end ?_
  refine th_n ?_
  refine wpIn_seq ?_
  refine w_reg ?_
  refine wl1 H1 (r_move rfl) rfl rfl rfl rfl fun a2 H2 => ?_
  clear H1 a1
  refine wl1 H2 (r_len Try.underlying23 rfl) rfl rfl rfl rfl fun a3 H3 => ?_
  clear H2 a2
  refine wl1 H3 (r_gtr rfl rfl) rfl rfl rfl rfl fun a4 H4 => ?_
  clear H3 a3
  refine wl1 H4 (r_assign rfl) rfl rfl rfl rfl fun a5 H5 => ?_
  clear H4 a4
  refine wl_end ?_
  refine th_n ?_
  refine wpIn_ret ?_
  refine fin_r H5 (res1 rfl H5 rfl) ?_
  exact ⟨by congr 1; simp only [decide_eq_decide]; omega, hN.gr⟩
set_option maxRecDepth 100000 in
set_option maxHeartbeats 400000 in
theorem index_ret {A : Option Addr} {c : Nat} {l : List (List Int)} {I : Im} {w : World} (hS : Sat I w) (hA : Els kB I A l) :
    Ret Try.prog 51 [.slice A l.length c, .func (.func 37) #[] #[]] w (fun v w' => (∃ z : Int, v = .int .i64 z ∧ decide (0 ≤ z) = !shortB l) ∧ Gr w w') := by
  have hl9 := hA.1
  refine ret_of (N := 19) Try.func51 rfl rfl rfl fun a0 H0 => ?_
  have hN := New.refl hS
  simp only [argsEnv, Nat.zero_add, Nat.reduceAdd] at H0
  refine wpIn_seq ?_
  refine w_reg ?_
  refine wl1 H0 (r_assign rfl) rfl rfl rfl rfl fun a1 H1 => ?_
  clear H0 a0
  refine wl_end ?_
  refine th_n ?_
  refine wpIn_seq ?_
  refine wpIn_seq ?_
  refine w_reg ?_
  refine wl1 H1 (r_move rfl) rfl rfl rfl rfl fun a2 H2 => ?_
  clear H1 a1
  refine wl1 H2 (r_len Try.underlying24 rfl) rfl rfl rfl rfl fun a3 H3 => ?_
  clear H2 a2
  refine wl1 H3 (r_move rfl) rfl rfl rfl rfl fun a4 H4 => ?_
  clear H3 a3
  refine wl_end ?_
  refine th_n ?_
  refine wpIn_block ?_
  refine w_loop (ι := Nat) (fun k => [(8, .int .i64 (k : Int))]) (fun k W => New I w I W ∧ (k ≤ l.length ∧ shortB (l.take k) = true)) (fun k => l.length - k) (l0 := [(0, _), (1, _), (7, _)]) 0 H4 ⟨rfl, rfl, rfl, rfl, trivial⟩ ⟨hN, Nat.zero_le _, rfl⟩ ?_
  rintro k a5 w1 H5 ⟨hN, hk, hT⟩
  clear H4 a4
  simp only [List.cons_append, List.nil_append] at H5
  refine wpIn_seq ?_
  refine w_reg ?_
  refine wl1 H5 (r_lss rfl rfl) rfl rfl rfl rfl fun a6 H6 => ?_
  clear H5 a5
  refine wl_end ?_
  refine th_n ?_
  refine wpIn_seq ?_
  first | refine w_if H6 rfl (fun hc9 => ?_) (fun hc9 => ?_) | refine w_cond H6 rfl (fun hc9 => ?_) (fun hc9 => ?_)
  ·
    try simp only [decide_eq_true_eq, decide_eq_false_iff_not, Bool.or_eq_true, Bool.and_eq_true, Bool.or_eq_false_iff, Bool.and_eq_false_iff, Bool.not_eq_true', Bool.not_eq_false', Int.not_lt, Int.not_le, ne_eq, Decidable.not_not] at hc9
    obtain ⟨bA, oA, rfl⟩ := hA.form (by omega)
    have hkl : k < l.length := by omega
    obtain ⟨AA, cA, hcA, hlA, hEA⟩ := hA.rowAt hkl
    refine wpIn_skip ?_
    refine th_n ?_
    refine wpIn_seq ?_
    refine wpIn_block ?_
    refine wpIn_seq ?_
    refine w_reg ?_
    refine wl1 H6 (r_move rfl) rfl rfl rfl rfl fun a7 H7 => ?_
    clear H6 a6
    refine wl1 H7 (r_assign rfl) rfl rfl rfl rfl fun a8 H8 => ?_
    clear H7 a7
    refine wl_end ?_
    refine th_n ?_
    refine wpIn_seq ?_
    refine w_reg ?_
    refine wl1 H8 (r_move rfl) rfl rfl rfl rfl fun a9 H9 => ?_
    clear H8 a8
    refine wl1 H9 (r_move rfl) rfl rfl rfl rfl fun a10 H10 => ?_
    clear H9 a9
    refine wl1 H10 (r_move rfl) rfl rfl rfl rfl fun a11 H11 => ?_
    clear H10 a10
    refine wl1 H11 (r_idx Try.underlying24 sz23 rfl rfl (i := k) rfl (by omega)) rfl rfl rfl rfl fun a12 H12 => ?_
    clear H11 a11
    refine wl1 H12 (r_load sc23 rfl (hN.sat.cell hcA)) rfl rfl rfl rfl fun a13 H13 => ?_
    clear H12 a12
    refine wlc  H13 rfl rfl hb37 rfl (vlong hN.sat) fun v w2 hR a14 H14 => ?_
    clear H13 a13
    obtain ⟨rfl, gw2⟩ := hR
    have hN := hN.ofGr gw2
    refine wl_end ?_
    refine th_n ?_
    first | refine w_if H14 rfl (fun hc16 => ?_) (fun hc16 => ?_) | refine w_cond H14 rfl (fun hc16 => ?_) (fun hc16 => ?_)
    ·
      try simp only [decide_eq_true_eq, decide_eq_false_iff_not, Bool.or_eq_true, Bool.and_eq_true, Bool.or_eq_false_iff, Bool.and_eq_false_iff, Bool.not_eq_true', Bool.not_eq_false', Int.not_lt, Int.not_le, ne_eq, Decidable.not_not] at hc16
      refine wpIn_seq ?_
      refine w_reg ?_
      refine wl1 H14 (r_move rfl) rfl rfl rfl rfl fun a15 H15 => ?_
      clear H14 a14
      refine wl1 H15 (r_assign rfl) rfl rfl rfl rfl fun a16 H16 => ?_
      clear H15 a15
      refine wl_end ?_
      refine th_n ?_
      refine wpIn_ret ?_
      refine bl_r ?_
      refine th_r ?_
      refine th_r ?_
      refine bl_r ?_
      refine th_r ?_
      refine fin_r H16 (res1 rfl H16 rfl) ?_
      exact ⟨⟨(k : Int), rfl, by rw [show shortB l = false from Bool.eq_false_iff.2 (fun h => by have := shortB_iff.1 h _ (List.getElem_mem hkl); omega)]; simp⟩, hN.gr⟩
    ·
      try simp only [decide_eq_true_eq, decide_eq_false_iff_not, Bool.or_eq_true, Bool.and_eq_true, Bool.or_eq_false_iff, Bool.and_eq_false_iff, Bool.not_eq_true', Bool.not_eq_false', Int.not_lt, Int.not_le, ne_eq, Decidable.not_not] at hc16
      refine wpIn_skip ?_
      refine bl_n ?_
      refine th_n ?_
      refine w_reg ?_
      first | refine wl1 H14 (r_addk rfl rfl (by simp only [InK]; omega)) rfl rfl rfl rfl fun a15 H17 => ?_ | refine wl1 H14 (r_add rfl rfl) rfl rfl rfl rfl fun a15 H17 => ?_
      clear H14 a14
      refine wl1 H17 (r_move rfl) rfl rfl rfl rfl fun a16 H18 => ?_
      clear H17 a15
      refine wl_end ?_
      exact th_n ⟨k + 1, (by omega), H18.sub ⟨rfl, rfl, rfl, rfl, trivial⟩, hN, by omega, by simp only [shortB] at hT ⊢; rw [List.take_succ_eq_append_getElem hkl, List.all_append, hT]; simp; omega⟩
  ·
    try simp only [decide_eq_true_eq, decide_eq_false_iff_not, Bool.or_eq_true, Bool.and_eq_true, Bool.or_eq_false_iff, Bool.and_eq_false_iff, Bool.not_eq_true', Bool.not_eq_false', Int.not_lt, Int.not_le, ne_eq, Decidable.not_not] at hc9
    refine wpIn_exit ?_
    refine th_x ?_
    refine th_x ?_
    refine bl_hit ?_
    refine th_n ?_
    refine wpIn_seq ?_
    refine w_reg ?_
    refine wl1 H6 (r_assign rfl) rfl rfl rfl rfl fun a7 H19 => ?_
    clear H6 a6
    refine wl_end ?_
    refine th_n ?_
    refine wpIn_ret ?_
    refine fin_r H19 (res1 rfl H19 rfl) ?_
    exact ⟨⟨-1, rfl, by rw [List.take_of_length_le (show l.length ≤ k by omega)] at hT; rw [hT]; rfl⟩, hN.gr⟩
set_option maxRecDepth 100000 in
set_option maxHeartbeats 400000 in
theorem contains_ret {A : Option Addr} {c : Nat} {l : List (List Int)} {I : Im} {w : World} (hS : Sat I w) (hA : Els kB I A l) :
    Ret Try.prog 38 [.slice A l.length c, .func (.func 37) #[] #[]] w (fun v w' => v = .bool (!shortB l) ∧ Gr w w') := by
  have hl9 := hA.1
  refine ret_of (N := 9) Try.func38 rfl rfl rfl fun a0 H0 => ?_
  have hN := New.refl hS
  simp only [argsEnv, Nat.zero_add, Nat.reduceAdd] at H0
  refine wpIn_seq ?_
  refine w_reg ?_
  refine wl1 H0 (r_assign rfl) rfl rfl rfl rfl fun a1 H1 => ?_
  clear H0 a0
  refine wl_end ?_
  refine th_n ?_
  refine wpIn_seq ?_
  refine w_reg ?_
  refine wl1 H1 (r_move rfl) rfl rfl rfl rfl fun a2 H2 => ?_
  clear H1 a1
  refine wl1 H2 (r_move rfl) rfl rfl rfl rfl fun a3 H3 => ?_
  clear H2 a2
  refine wlc  H3 rfl rfl hb51 rfl (index_ret hN.sat hA) fun v w1 hR a4 H4 => ?_
  clear H3 a3
  obtain ⟨⟨z, rfl, hz⟩, gw1⟩ := hR
  have hN := hN.ofGr gw1
  refine wl1 H4 (r_geq rfl rfl) rfl rfl rfl rfl fun a5 H5 => ?_
  clear H4 a4
  refine wl1 H5 (r_assign rfl) rfl rfl rfl rfl fun a6 H6 => ?_
  clear H5 a5
  refine wl_end ?_
  refine th_n ?_
  refine wpIn_ret ?_
  refine fin_r H6 (res1 rfl H6 rfl) ?_
  exact ⟨congrArg Value.bool hz, hN.gr⟩
set_option maxRecDepth 100000 in
set_option maxHeartbeats 400000 in
theorem rshort {A : Option Addr} {c : Nat} {l : List (List Int)} {I : Im} {w : World} (hS : Sat I w) (hA : Els kB I A l) :
    Ret Try.prog 39 [.slice A l.length c] w (fun v w' => v = .bool (shortB l) ∧ Gr w w') := by
  have hl9 := hA.1
  refine ret_of (N := 16) Try.func39 rfl rfl rfl fun a0 H0 => ?_
  have hN := New.refl hS
  simp only [argsEnv, Nat.zero_add, Nat.reduceAdd] at H0
  refine wpIn_seq ?_
  refine w_reg ?_
  refine wl1 H0 (r_assign rfl) rfl rfl rfl rfl fun a1 H1 => ?_
  clear H0 a0
  refine wl_end ?_
  refine th_n ?_
  refine wpIn_seq ?_
  refine wpIn_seq ?_
  refine w_reg ?_
  refine wl1 H1 (r_assign rfl) rfl rfl rfl rfl fun a2 H2 => ?_
  clear H1 a1
  refine wl_end ?_
  refine th_n ?_
  refine wpIn_block ?_
  refine w_loop (ι := Nat) (fun k => [(3, .int .i64 (k : Int))]) (fun k W => New I w I W ∧ (k ≤ l.length ∧ shortB (l.take k) = true)) (fun k => l.length - k) (l0 := [(0, _)]) 0 H2 ⟨rfl, rfl, trivial⟩ ⟨hN, Nat.zero_le _, rfl⟩ ?_
  rintro k a3 w1 H3 ⟨hN, hk, hT⟩
  clear H2 a2
  simp only [List.cons_append, List.nil_append] at H3
  refine wpIn_seq ?_
  refine wpIn_seq ?_
  refine w_reg ?_
  refine wl1 H3 (r_move rfl) rfl rfl rfl rfl fun a4 H4 => ?_
  clear H3 a3
  refine wl1 H4 (r_move rfl) rfl rfl rfl rfl fun a5 H5 => ?_
  clear H4 a4
  refine wl1 H5 (r_len Try.underlying24 rfl) rfl rfl rfl rfl fun a6 H6 => ?_
  clear H5 a5
  refine wl1 H6 (r_lss rfl rfl) rfl rfl rfl rfl fun a7 H7 => ?_
  clear H6 a6
  refine wl_end ?_
  refine th_n ?_
  first | refine w_if H7 rfl (fun hc7 => ?_) (fun hc7 => ?_) | refine w_cond H7 rfl (fun hc7 => ?_) (fun hc7 => ?_)
  ·
    try simp only [decide_eq_true_eq, decide_eq_false_iff_not, Bool.or_eq_true, Bool.and_eq_true, Bool.or_eq_false_iff, Bool.and_eq_false_iff, Bool.not_eq_true', Bool.not_eq_false', Int.not_lt, Int.not_le, ne_eq, Decidable.not_not] at hc7
    obtain ⟨bA, oA, rfl⟩ := hA.form (by omega)
    have hkl : k < l.length := by omega
    obtain ⟨AA, cA, hcA, hlA, hEA⟩ := hA.rowAt hkl
    refine wpIn_skip ?_
    refine th_n ?_
    refine wpIn_seq ?_
    refine wpIn_block ?_
    refine wpIn_seq ?_
    refine w_reg ?_
    refine wl1 H7 (r_move rfl) rfl rfl rfl rfl fun a8 H8 => ?_
    clear H7 a7
    refine wl1 H8 (r_move rfl) rfl rfl rfl rfl fun a9 H9 => ?_
    clear H8 a8
    refine wl1 H9 (r_idx Try.underlying24 sz23 rfl rfl (i := k) rfl (by omega)) rfl rfl rfl rfl fun a10 H10 => ?_
    clear H9 a9
    refine wl1 H10 (r_load sc23 rfl (hN.sat.cell hcA)) rfl rfl rfl rfl fun a11 H11 => ?_
    clear H10 a10
    refine wl1 H11 (r_len Try.underlying23 rfl) rfl rfl rfl rfl fun a12 H12 => ?_
    clear H11 a11
    refine wl1 H12 (r_gtr rfl rfl) rfl rfl rfl rfl fun a13 H13 => ?_
    clear H12 a12
    refine wl_end ?_
    refine th_n ?_
    first | refine w_if H13 rfl (fun hc15 => ?_) (fun hc15 => ?_) | refine w_cond H13 rfl (fun hc15 => ?_) (fun hc15 => ?_)
    ·
      try simp only [decide_eq_true_eq, decide_eq_false_iff_not, Bool.or_eq_true, Bool.and_eq_true, Bool.or_eq_false_iff, Bool.and_eq_false_iff, Bool.not_eq_true', Bool.not_eq_false', Int.not_lt, Int.not_le, ne_eq, Decidable.not_not] at hc15
      refine wpIn_seq ?_
      refine w_reg ?_
      refine wl1 H13 (r_assign rfl) rfl rfl rfl rfl fun a14 H14 => ?_
      clear H13 a13
      refine wl_end ?_
      refine th_n ?_
      refine wpIn_ret ?_
      refine bl_r ?_
      refine th_r ?_
      refine th_r ?_
      refine bl_r ?_
      refine th_r ?_
      refine fin_r H14 (res1 rfl H14 rfl) ?_
      exact ⟨by rw [show shortB l = false from Bool.eq_false_iff.2 (fun h => by have := shortB_iff.1 h _ (List.getElem_mem hkl); omega)], hN.gr⟩
    ·
      try simp only [decide_eq_true_eq, decide_eq_false_iff_not, Bool.or_eq_true, Bool.and_eq_true, Bool.or_eq_false_iff, Bool.and_eq_false_iff, Bool.not_eq_true', Bool.not_eq_false', Int.not_lt, Int.not_le, ne_eq, Decidable.not_not] at hc15
      refine wpIn_skip ?_
      refine bl_n ?_
      refine th_n ?_
      refine w_reg ?_
      refine wl1 H13 (r_move rfl) rfl rfl rfl rfl fun a14 H15 => ?_
      clear H13 a13
      first | refine wl1 H15 (r_addk rfl rfl (by simp only [InK]; omega)) rfl rfl rfl rfl fun a15 H16 => ?_ | refine wl1 H15 (r_add rfl rfl) rfl rfl rfl rfl fun a15 H16 => ?_
      clear H15 a14
      refine wl1 H16 (r_assign rfl) rfl rfl rfl rfl fun a16 H17 => ?_
      clear H16 a15
      refine wl_end ?_
      exact th_n ⟨k + 1, (by omega), H17.sub ⟨rfl, rfl, trivial⟩, hN, by omega, by simp only [shortB] at hT ⊢; rw [List.take_succ_eq_append_getElem hkl, List.all_append, hT]; simp; omega⟩
  ·
    try simp only [decide_eq_true_eq, decide_eq_false_iff_not, Bool.or_eq_true, Bool.and_eq_true, Bool.or_eq_false_iff, Bool.and_eq_false_iff, Bool.not_eq_true', Bool.not_eq_false', Int.not_lt, Int.not_le, ne_eq, Decidable.not_not] at hc7
    refine wpIn_exit ?_
    refine th_x ?_
    refine th_x ?_
    refine bl_hit ?_
    refine th_n ?_
    refine wpIn_seq ?_
    refine w_reg ?_
    refine wl1 H7 (r_assign rfl) rfl rfl rfl rfl fun a8 H18 => ?_
    clear H7 a7
    refine wl_end ?_
    refine th_n ?_
    refine wpIn_ret ?_
    refine fin_r H18 (res1 rfl H18 rfl) ?_
    exact ⟨by rw [List.take_of_length_le (show l.length ≤ k by omega)] at hT; rw [hT], hN.gr⟩
set_option maxRecDepth 100000 in
set_option maxHeartbeats 1000000 in
theorem valid_ret {A1 A2 : Option Addr} {c1 c2 : Nat} {x : Lk} {I : Im} {w : World} (hS : Sat I w) (hL : LkAt I x A1 c1 A2 c2) :
    Ret Try.prog 15 [.agg #[.int .u64 x.key, .slice A1 x.out.length c1, .int .i64 x.base, .slice A2 x.inn.length c2, .int .i64 x.rcv]] w (fun v w' => v = .bool (lvalid x) ∧ Gr w w') := by
  have hol := hL.oe.1
  have hil := hL.ie.1
  refine ret_of (N := 51) Try.func15 rfl rfl rfl fun a0 H0 => ?_
  have hN := New.refl hS
  simp only [argsEnv, Nat.zero_add, Nat.reduceAdd] at H0
  refine wpIn_seq ?_
  refine w_reg ?_
  refine s_box H0 rfl rfl hN fun w1 b1 hN gw1 hB1 hgeb1 heb1 a1 H1 => ?_
  clear H0 a0
  replace hB1 : Box _ _ _ [_, _, _, _, _] 26 := hB1
  refine wl1 H1 (r_assign rfl) rfl rfl rfl rfl fun a2 H2 => ?_
  clear H1 a1
  refine wl_end ?_
  refine th_n ?_
  refine wpIn_seq ?_
  refine w_reg ?_
  refine wl1 H2 (r_assign rfl) rfl rfl rfl rfl fun a3 H3 => ?_
  clear H2 a2
  refine wl_end ?_
  refine th_n ?_
  refine wpIn_seq ?_
  refine wpIn_seq ?_
  refine w_reg ?_
  refine wl1 H3 (r_fld fld26_1 rfl) rfl rfl rfl rfl fun a4 H4 => ?_
  clear H3 a3
  refine wl1 H4 (r_load sc24 rfl (hB1.cell rfl)) rfl rfl rfl rfl fun a5 H5 => ?_
  clear H4 a4
  refine wl1 H5 (r_len Try.underlying24 rfl) rfl rfl rfl rfl fun a6 H6 => ?_
  clear H5 a5
  refine wl1 H6 (r_gtr rfl rfl) rfl rfl rfl rfl fun a7 H7 => ?_
  clear H6 a6
  refine wl1 H7 (r_move rfl) rfl rfl rfl rfl fun a8 H8 => ?_
  clear H7 a7
  refine wl_split (t := 8) H8 rfl (fun hg2_4 H9 => ?_) (fun hg2_4 H9 => ?_)
  ·
    clear H8
    try simp only [decide_eq_true_eq, decide_eq_false_iff_not, Bool.or_eq_true, Bool.and_eq_true, Bool.or_eq_false_iff, Bool.and_eq_false_iff, Bool.not_eq_true', Bool.not_eq_false', Int.not_lt, Int.not_le, ne_eq, Decidable.not_not] at hg2_4
    refine wl_off (d := 8) H9 rfl rfl rfl rfl rfl rfl fun a9 H10 => ?_
    clear H9 a8
    refine wl_off (d := 8) H10 rfl rfl rfl rfl rfl rfl fun a10 H11 => ?_
    clear H10 a9
    refine wl_off (d := 8) H11 rfl rfl rfl rfl rfl rfl fun a11 H12 => ?_
    clear H11 a10
    refine wl_off (d := 8) H12 rfl rfl rfl rfl rfl rfl fun a12 H13 => ?_
    clear H12 a11
    refine wl1 H13 (r_pick_t rfl rfl) rfl rfl rfl rfl fun a13 H14 => ?_
    clear H13 a12
    refine wl1 H14 (r_move rfl) rfl rfl rfl rfl fun a14 H15 => ?_
    clear H14 a13
    refine wl_off (d := 14) H15 rfl rfl rfl rfl rfl rfl fun a15 H16 => ?_
    clear H15 a14
    refine wl_off (d := 14) H16 rfl rfl rfl rfl rfl rfl fun a16 H17 => ?_
    clear H16 a15
    refine wl_off (d := 14) H17 rfl rfl rfl rfl rfl rfl fun a17 H18 => ?_
    clear H17 a16
    refine wl_off (d := 14) H18 rfl rfl rfl rfl rfl rfl fun a18 H19 => ?_
    clear H18 a17
    refine wl1 H19 (r_pick_t rfl rfl) rfl rfl rfl rfl fun a19 H20 => ?_
    clear H19 a18
    refine wl1 H20 (r_move rfl) rfl rfl rfl rfl fun a20 H21 => ?_
    clear H20 a19
    refine wl_off (d := 20) H21 rfl rfl rfl rfl rfl rfl fun a21 H22 => ?_
    clear H21 a20
    refine wl_off (d := 20) H22 rfl rfl rfl rfl rfl rfl fun a22 H23 => ?_
    clear H22 a21
    refine wl_off (d := 20) H23 rfl rfl rfl rfl rfl rfl fun a23 H24 => ?_
    clear H23 a22
    refine wl_off (d := 20) H24 rfl rfl rfl rfl rfl rfl fun a24 H25 => ?_
    clear H24 a23
    refine wl1 H25 (r_pick_t rfl rfl) rfl rfl rfl rfl fun a25 H26 => ?_
    clear H25 a24
    refine wl_end ?_
    refine th_n ?_
    refine w_tt H26 rfl rfl ?_
    refine wpIn_seq ?_
    refine w_reg ?_
    refine wl1 H26 (r_assign rfl) rfl rfl rfl rfl fun a26 H27 => ?_
    clear H26 a25
    refine wl_end ?_
    refine th_n ?_
    refine wpIn_ret ?_
    refine th_r ?_
    refine fin_r H27 (res1 rfl H27 rfl) ?_
    refine ⟨congrArg Value.bool ?_, hN.gr⟩
    first
      | (refine (Bool.eq_false_iff.2 (fun h => ?_)).symm
         have hv := (lvalid_iff x).1 h
         have h1 := hv.o
         have h2 := hv.i
         have h3 := hv.b0
         have h4 := hv.b1
         have h5 := hv.r0
         have h6 := hv.r1
         have h7 := shortB_iff.2 hv.so
         have h8 := shortB_iff.2 hv.si
         first | omega | (simp_all; done))
      | (rw [Bool.eq_iff_iff, lvalid_iff]
         simp only [decide_eq_true_eq]
         constructor
         · intro h
           exact ⟨by omega, by omega, by omega, by omega, by omega, by omega, shortB_iff.1 (by simp_all), shortB_iff.1 (by simp_all)⟩
         · intro h
           have := h.r1
           omega)
  ·
    clear H8
    try simp only [decide_eq_true_eq, decide_eq_false_iff_not, Bool.or_eq_true, Bool.and_eq_true, Bool.or_eq_false_iff, Bool.and_eq_false_iff, Bool.not_eq_true', Bool.not_eq_false', Int.not_lt, Int.not_le, ne_eq, Decidable.not_not] at hg2_4
    refine wl_on (d := 8) H9 rfl rfl rfl ?_
    refine wl1 H9 (r_fld fld26_3 rfl) rfl rfl rfl rfl fun a9 H28 => ?_
    clear H9 a8
    refine wl_on (d := 8) H28 rfl rfl rfl ?_
    refine wl1 H28 (r_load sc24 rfl (hB1.cell rfl)) rfl rfl rfl rfl fun a10 H29 => ?_
    clear H28 a9
    refine wl_on (d := 8) H29 rfl rfl rfl ?_
    refine wl1 H29 (r_len Try.underlying24 rfl) rfl rfl rfl rfl fun a11 H30 => ?_
    clear H29 a10
    refine wl_on (d := 8) H30 rfl rfl rfl ?_
    refine wl1 H30 (r_gtr rfl rfl) rfl rfl rfl rfl fun a12 H31 => ?_
    clear H30 a11
    refine wl1 H31 (r_pick_f rfl rfl) rfl rfl rfl rfl fun a13 H32 => ?_
    clear H31 a12
    refine wl1 H32 (r_move rfl) rfl rfl rfl rfl fun a14 H33 => ?_
    clear H32 a13
    refine wl_split (t := 14) H33 rfl (fun hg2_10 H34 => ?_) (fun hg2_10 H34 => ?_)
    ·
      clear H33
      try simp only [decide_eq_true_eq, decide_eq_false_iff_not, Bool.or_eq_true, Bool.and_eq_true, Bool.or_eq_false_iff, Bool.and_eq_false_iff, Bool.not_eq_true', Bool.not_eq_false', Int.not_lt, Int.not_le, ne_eq, Decidable.not_not] at hg2_10
      refine wl_off (d := 14) H34 rfl rfl rfl rfl rfl rfl fun a15 H35 => ?_
      clear H34 a14
      refine wl_off (d := 14) H35 rfl rfl rfl rfl rfl rfl fun a16 H36 => ?_
      clear H35 a15
      refine wl_off (d := 14) H36 rfl rfl rfl rfl rfl rfl fun a17 H37 => ?_
      clear H36 a16
      refine wl_off (d := 14) H37 rfl rfl rfl rfl rfl rfl fun a18 H38 => ?_
      clear H37 a17
      refine wl1 H38 (r_pick_t rfl rfl) rfl rfl rfl rfl fun a19 H39 => ?_
      clear H38 a18
      refine wl1 H39 (r_move rfl) rfl rfl rfl rfl fun a20 H40 => ?_
      clear H39 a19
      refine wl_off (d := 20) H40 rfl rfl rfl rfl rfl rfl fun a21 H41 => ?_
      clear H40 a20
      refine wl_off (d := 20) H41 rfl rfl rfl rfl rfl rfl fun a22 H42 => ?_
      clear H41 a21
      refine wl_off (d := 20) H42 rfl rfl rfl rfl rfl rfl fun a23 H43 => ?_
      clear H42 a22
      refine wl_off (d := 20) H43 rfl rfl rfl rfl rfl rfl fun a24 H44 => ?_
      clear H43 a23
      refine wl1 H44 (r_pick_t rfl rfl) rfl rfl rfl rfl fun a25 H45 => ?_
      clear H44 a24
      refine wl_end ?_
      refine th_n ?_
      refine w_tt H45 rfl rfl ?_
      refine wpIn_seq ?_
      refine w_reg ?_
      refine wl1 H45 (r_assign rfl) rfl rfl rfl rfl fun a26 H46 => ?_
      clear H45 a25
      refine wl_end ?_
      refine th_n ?_
      refine wpIn_ret ?_
      refine th_r ?_
      refine fin_r H46 (res1 rfl H46 rfl) ?_
      refine ⟨congrArg Value.bool ?_, hN.gr⟩
      first
        | (refine (Bool.eq_false_iff.2 (fun h => ?_)).symm
           have hv := (lvalid_iff x).1 h
           have h1 := hv.o
           have h2 := hv.i
           have h3 := hv.b0
           have h4 := hv.b1
           have h5 := hv.r0
           have h6 := hv.r1
           have h7 := shortB_iff.2 hv.so
           have h8 := shortB_iff.2 hv.si
           first | omega | (simp_all; done))
        | (rw [Bool.eq_iff_iff, lvalid_iff]
           simp only [decide_eq_true_eq]
           constructor
           · intro h
             exact ⟨by omega, by omega, by omega, by omega, by omega, by omega, shortB_iff.1 (by simp_all), shortB_iff.1 (by simp_all)⟩
           · intro h
             have := h.r1
             omega)
    ·
      clear H33
      try simp only [decide_eq_true_eq, decide_eq_false_iff_not, Bool.or_eq_true, Bool.and_eq_true, Bool.or_eq_false_iff, Bool.and_eq_false_iff, Bool.not_eq_true', Bool.not_eq_false', Int.not_lt, Int.not_le, ne_eq, Decidable.not_not] at hg2_10
      refine wl_on (d := 14) H34 rfl rfl rfl ?_
      refine wl1 H34 (r_fld fld26_1 rfl) rfl rfl rfl rfl fun a15 H47 => ?_
      clear H34 a14
      refine wl_on (d := 14) H47 rfl rfl rfl ?_
      refine wl1 H47 (r_load sc24 rfl (hB1.cell rfl)) rfl rfl rfl rfl fun a16 H48 => ?_
      clear H47 a15
      refine wl_on (d := 14) H48 rfl rfl rfl ?_
      refine wl1 H48 (r_move rfl) rfl rfl rfl rfl fun a17 H49 => ?_
      clear H48 a16
      refine wl_on (d := 14) H49 rfl rfl rfl ?_
      refine wlc  H49 rfl rfl hb38 rfl (contains_ret hN.sat hL.oe) fun v w2 hR a18 H50 => ?_
      clear H49 a17
      obtain ⟨rfl, gw2⟩ := hR
      have hN := hN.ofGr gw2
      replace hB1 := hB1.gr gw2
      refine wl1 H50 (r_pick_f rfl rfl) rfl rfl rfl rfl fun a19 H51 => ?_
      clear H50 a18
      refine wl1 H51 (r_move rfl) rfl rfl rfl rfl fun a20 H52 => ?_
      clear H51 a19
      refine wl_split (t := 20) H52 rfl (fun hg2_16 H53 => ?_) (fun hg2_16 H53 => ?_)
      ·
        clear H52
        try simp only [decide_eq_true_eq, decide_eq_false_iff_not, Bool.or_eq_true, Bool.and_eq_true, Bool.or_eq_false_iff, Bool.and_eq_false_iff, Bool.not_eq_true', Bool.not_eq_false', Int.not_lt, Int.not_le, ne_eq, Decidable.not_not] at hg2_16
        refine wl_off (d := 20) H53 rfl rfl rfl rfl rfl rfl fun a21 H54 => ?_
        clear H53 a20
        refine wl_off (d := 20) H54 rfl rfl rfl rfl rfl rfl fun a22 H55 => ?_
        clear H54 a21
        refine wl_off (d := 20) H55 rfl rfl rfl rfl rfl rfl fun a23 H56 => ?_
        clear H55 a22
        refine wl_off (d := 20) H56 rfl rfl rfl rfl rfl rfl fun a24 H57 => ?_
        clear H56 a23
        refine wl1 H57 (r_pick_t rfl rfl) rfl rfl rfl rfl fun a25 H58 => ?_
        clear H57 a24
        refine wl_end ?_
        refine th_n ?_
        refine w_tt H58 rfl rfl ?_
        refine wpIn_seq ?_
        refine w_reg ?_
        refine wl1 H58 (r_assign rfl) rfl rfl rfl rfl fun a26 H59 => ?_
        clear H58 a25
        refine wl_end ?_
        refine th_n ?_
        refine wpIn_ret ?_
        refine th_r ?_
        refine fin_r H59 (res1 rfl H59 rfl) ?_
        refine ⟨congrArg Value.bool ?_, hN.gr⟩
        first
          | (refine (Bool.eq_false_iff.2 (fun h => ?_)).symm
             have hv := (lvalid_iff x).1 h
             have h1 := hv.o
             have h2 := hv.i
             have h3 := hv.b0
             have h4 := hv.b1
             have h5 := hv.r0
             have h6 := hv.r1
             have h7 := shortB_iff.2 hv.so
             have h8 := shortB_iff.2 hv.si
             first | omega | (simp_all; done))
          | (rw [Bool.eq_iff_iff, lvalid_iff]
             simp only [decide_eq_true_eq]
             constructor
             · intro h
               exact ⟨by omega, by omega, by omega, by omega, by omega, by omega, shortB_iff.1 (by simp_all), shortB_iff.1 (by simp_all)⟩
             · intro h
               have := h.r1
               omega)
      ·
        clear H52
        try simp only [decide_eq_true_eq, decide_eq_false_iff_not, Bool.or_eq_true, Bool.and_eq_true, Bool.or_eq_false_iff, Bool.and_eq_false_iff, Bool.not_eq_true', Bool.not_eq_false', Int.not_lt, Int.not_le, ne_eq, Decidable.not_not] at hg2_16
        refine wl_on (d := 20) H53 rfl rfl rfl ?_
        refine wl1 H53 (r_fld fld26_3 rfl) rfl rfl rfl rfl fun a21 H60 => ?_
        clear H53 a20
        refine wl_on (d := 20) H60 rfl rfl rfl ?_
        refine wl1 H60 (r_load sc24 rfl (hB1.cell rfl)) rfl rfl rfl rfl fun a22 H61 => ?_
        clear H60 a21
        refine wl_on (d := 20) H61 rfl rfl rfl ?_
        refine wl1 H61 (r_move rfl) rfl rfl rfl rfl fun a23 H62 => ?_
        clear H61 a22
        refine wl_on (d := 20) H62 rfl rfl rfl ?_
        refine wlc  H62 rfl rfl hb38 rfl (contains_ret hN.sat hL.ie) fun v w3 hR a24 H63 => ?_
        clear H62 a23
        obtain ⟨rfl, gw3⟩ := hR
        have hN := hN.ofGr gw3
        replace hB1 := hB1.gr gw3
        refine wl1 H63 (r_pick_f rfl rfl) rfl rfl rfl rfl fun a25 H64 => ?_
        clear H63 a24
        refine wl_end ?_
        refine th_n ?_
        first | refine w_if H64 rfl (fun hc25 => ?_) (fun hc25 => ?_) | refine w_cond H64 rfl (fun hc25 => ?_) (fun hc25 => ?_)
        ·
          try simp only [decide_eq_true_eq, decide_eq_false_iff_not, Bool.or_eq_true, Bool.and_eq_true, Bool.or_eq_false_iff, Bool.and_eq_false_iff, Bool.not_eq_true', Bool.not_eq_false', Int.not_lt, Int.not_le, ne_eq, Decidable.not_not] at hc25
          refine wpIn_seq ?_
          refine w_reg ?_
          refine wl1 H64 (r_assign rfl) rfl rfl rfl rfl fun a26 H65 => ?_
          clear H64 a25
          refine wl_end ?_
          refine th_n ?_
          refine wpIn_ret ?_
          refine th_r ?_
          refine fin_r H65 (res1 rfl H65 rfl) ?_
          refine ⟨congrArg Value.bool ?_, hN.gr⟩
          first
            | (refine (Bool.eq_false_iff.2 (fun h => ?_)).symm
               have hv := (lvalid_iff x).1 h
               have h1 := hv.o
               have h2 := hv.i
               have h3 := hv.b0
               have h4 := hv.b1
               have h5 := hv.r0
               have h6 := hv.r1
               have h7 := shortB_iff.2 hv.so
               have h8 := shortB_iff.2 hv.si
               first | omega | (simp_all; done))
            | (rw [Bool.eq_iff_iff, lvalid_iff]
               simp only [decide_eq_true_eq]
               constructor
               · intro h
                 exact ⟨by omega, by omega, by omega, by omega, by omega, by omega, shortB_iff.1 (by simp_all), shortB_iff.1 (by simp_all)⟩
               · intro h
                 have := h.r1
                 omega)
        ·
          try simp only [decide_eq_true_eq, decide_eq_false_iff_not, Bool.or_eq_true, Bool.and_eq_true, Bool.or_eq_false_iff, Bool.and_eq_false_iff, Bool.not_eq_true', Bool.not_eq_false', Int.not_lt, Int.not_le, ne_eq, Decidable.not_not] at hc25
          refine wpIn_skip ?_
          refine th_n ?_
          refine wpIn_seq ?_
          refine w_reg ?_
          refine wl1 H64 (r_fld fld26_2 rfl) rfl rfl rfl rfl fun a26 H66 => ?_
          clear H64 a25
          refine wl1 H66 (r_load sc3 rfl (hB1.cell rfl)) rfl rfl rfl rfl fun a27 H67 => ?_
          clear H66 a26
          refine wl1 H67 (r_geq rfl rfl) rfl rfl rfl rfl fun a28 H68 => ?_
          clear H67 a27
          refine wl1 H68 (r_move rfl) rfl rfl rfl rfl fun a29 H69 => ?_
          clear H68 a28
          refine wl_split (t := 29) H69 rfl (fun hg4_3 H70 => ?_) (fun hg4_3 H70 => ?_)
          ·
            clear H69
            try simp only [decide_eq_true_eq, decide_eq_false_iff_not, Bool.or_eq_true, Bool.and_eq_true, Bool.or_eq_false_iff, Bool.and_eq_false_iff, Bool.not_eq_true', Bool.not_eq_false', Int.not_lt, Int.not_le, ne_eq, Decidable.not_not] at hg4_3
            refine wl_on (d := 29) H70 rfl rfl rfl ?_
            refine wl1 H70 (r_fld fld26_2 rfl) rfl rfl rfl rfl fun a30 H71 => ?_
            clear H70 a29
            refine wl_on (d := 29) H71 rfl rfl rfl ?_
            refine wl1 H71 (r_load sc3 rfl (hB1.cell rfl)) rfl rfl rfl rfl fun a31 H72 => ?_
            clear H71 a30
            refine wl_on (d := 29) H72 rfl rfl rfl ?_
            refine wl1 H72 (r_fld fld26_1 rfl) rfl rfl rfl rfl fun a32 H73 => ?_
            clear H72 a31
            refine wl_on (d := 29) H73 rfl rfl rfl ?_
            refine wl1 H73 (r_load sc24 rfl (hB1.cell rfl)) rfl rfl rfl rfl fun a33 H74 => ?_
            clear H73 a32
            refine wl_on (d := 29) H74 rfl rfl rfl ?_
            refine wl1 H74 (r_len Try.underlying24 rfl) rfl rfl rfl rfl fun a34 H75 => ?_
            clear H74 a33
            refine wl_on (d := 29) H75 rfl rfl rfl ?_
            first | refine wl1 H75 (r_subk rfl rfl (by simp only [InK]; omega)) rfl rfl rfl rfl fun a35 H76 => ?_ | refine wl1 H75 (r_sub rfl rfl) rfl rfl rfl rfl fun a35 H76 => ?_
            clear H75 a34
            refine wl_on (d := 29) H76 rfl rfl rfl ?_
            refine wl1 H76 (r_leq rfl rfl) rfl rfl rfl rfl fun a36 H77 => ?_
            clear H76 a35
            refine wl1 H77 (r_pick_t rfl rfl) rfl rfl rfl rfl fun a37 H78 => ?_
            clear H77 a36
            refine wl1 H78 (r_move rfl) rfl rfl rfl rfl fun a38 H79 => ?_
            clear H78 a37
            refine wl_split (t := 38) H79 rfl (fun hg4_12 H80 => ?_) (fun hg4_12 H80 => ?_)
            ·
              clear H79
              try simp only [decide_eq_true_eq, decide_eq_false_iff_not, Bool.or_eq_true, Bool.and_eq_true, Bool.or_eq_false_iff, Bool.and_eq_false_iff, Bool.not_eq_true', Bool.not_eq_false', Int.not_lt, Int.not_le, ne_eq, Decidable.not_not] at hg4_12
              refine wl_on (d := 38) H80 rfl rfl rfl ?_
              refine wl1 H80 (r_fld fld26_4 rfl) rfl rfl rfl rfl fun a39 H81 => ?_
              clear H80 a38
              refine wl_on (d := 38) H81 rfl rfl rfl ?_
              refine wl1 H81 (r_load sc3 rfl (hB1.cell rfl)) rfl rfl rfl rfl fun a40 H82 => ?_
              clear H81 a39
              refine wl_on (d := 38) H82 rfl rfl rfl ?_
              refine wl1 H82 (r_fld fld26_3 rfl) rfl rfl rfl rfl fun a41 H83 => ?_
              clear H82 a40
              refine wl_on (d := 38) H83 rfl rfl rfl ?_
              refine wl1 H83 (r_load sc24 rfl (hB1.cell rfl)) rfl rfl rfl rfl fun a42 H84 => ?_
              clear H83 a41
              refine wl_on (d := 38) H84 rfl rfl rfl ?_
              refine wl1 H84 (r_len Try.underlying24 rfl) rfl rfl rfl rfl fun a43 H85 => ?_
              clear H84 a42
              refine wl_on (d := 38) H85 rfl rfl rfl ?_
              refine wl1 H85 (r_geq rfl rfl) rfl rfl rfl rfl fun a44 H86 => ?_
              clear H85 a43
              refine wl1 H86 (r_pick_t rfl rfl) rfl rfl rfl rfl fun a45 H87 => ?_
              clear H86 a44
              refine wl1 H87 (r_move rfl) rfl rfl rfl rfl fun a46 H88 => ?_
              clear H87 a45
              refine wl_split (t := 46) H88 rfl (fun hg4_20 H89 => ?_) (fun hg4_20 H89 => ?_)
              ·
                clear H88
                try simp only [decide_eq_true_eq, decide_eq_false_iff_not, Bool.or_eq_true, Bool.and_eq_true, Bool.or_eq_false_iff, Bool.and_eq_false_iff, Bool.not_eq_true', Bool.not_eq_false', Int.not_lt, Int.not_le, ne_eq, Decidable.not_not] at hg4_20
                refine wl_on (d := 46) H89 rfl rfl rfl ?_
                refine wl1 H89 (r_fld fld26_4 rfl) rfl rfl rfl rfl fun a47 H90 => ?_
                clear H89 a46
                refine wl_on (d := 46) H90 rfl rfl rfl ?_
                refine wl1 H90 (r_load sc3 rfl (hB1.cell rfl)) rfl rfl rfl rfl fun a48 H91 => ?_
                clear H90 a47
                refine wl_on (d := 46) H91 rfl rfl rfl ?_
                refine wl1 H91 (r_leq rfl rfl) rfl rfl rfl rfl fun a49 H92 => ?_
                clear H91 a48
                refine wl1 H92 (r_pick_t rfl rfl) rfl rfl rfl rfl fun a50 H93 => ?_
                clear H92 a49
                refine wl1 H93 (r_assign rfl) rfl rfl rfl rfl fun a51 H94 => ?_
                clear H93 a50
                refine wl_end ?_
                refine th_n ?_
                refine wpIn_ret ?_
                refine fin_r H94 (res1 rfl H94 rfl) ?_
                refine ⟨congrArg Value.bool ?_, hN.gr⟩
                first
                  | (refine (Bool.eq_false_iff.2 (fun h => ?_)).symm
                     have hv := (lvalid_iff x).1 h
                     have h1 := hv.o
                     have h2 := hv.i
                     have h3 := hv.b0
                     have h4 := hv.b1
                     have h5 := hv.r0
                     have h6 := hv.r1
                     have h7 := shortB_iff.2 hv.so
                     have h8 := shortB_iff.2 hv.si
                     first | omega | (simp_all; done))
                  | (rw [Bool.eq_iff_iff, lvalid_iff]
                     simp only [decide_eq_true_eq]
                     constructor
                     · intro h
                       exact ⟨by omega, by omega, by omega, by omega, by omega, by omega, shortB_iff.1 (by simp_all), shortB_iff.1 (by simp_all)⟩
                     · intro h
                       have := h.r1
                       omega)
              ·
                clear H88
                try simp only [decide_eq_true_eq, decide_eq_false_iff_not, Bool.or_eq_true, Bool.and_eq_true, Bool.or_eq_false_iff, Bool.and_eq_false_iff, Bool.not_eq_true', Bool.not_eq_false', Int.not_lt, Int.not_le, ne_eq, Decidable.not_not] at hg4_20
                refine wl_off (d := 46) H89 rfl rfl rfl rfl rfl rfl fun a47 H95 => ?_
                clear H89 a46
                refine wl_off (d := 46) H95 rfl rfl rfl rfl rfl rfl fun a48 H96 => ?_
                clear H95 a47
                refine wl_off (d := 46) H96 rfl rfl rfl rfl rfl rfl fun a49 H97 => ?_
                clear H96 a48
                refine wl1 H97 (r_pick_f rfl rfl) rfl rfl rfl rfl fun a50 H98 => ?_
                clear H97 a49
                refine wl1 H98 (r_assign rfl) rfl rfl rfl rfl fun a51 H99 => ?_
                clear H98 a50
                refine wl_end ?_
                refine th_n ?_
                refine wpIn_ret ?_
                refine fin_r H99 (res1 rfl H99 rfl) ?_
                refine ⟨congrArg Value.bool ?_, hN.gr⟩
                first
                  | (refine (Bool.eq_false_iff.2 (fun h => ?_)).symm
                     have hv := (lvalid_iff x).1 h
                     have h1 := hv.o
                     have h2 := hv.i
                     have h3 := hv.b0
                     have h4 := hv.b1
                     have h5 := hv.r0
                     have h6 := hv.r1
                     have h7 := shortB_iff.2 hv.so
                     have h8 := shortB_iff.2 hv.si
                     first | omega | (simp_all; done))
                  | (rw [Bool.eq_iff_iff, lvalid_iff]
                     simp only [decide_eq_true_eq]
                     constructor
                     · intro h
                       exact ⟨by omega, by omega, by omega, by omega, by omega, by omega, shortB_iff.1 (by simp_all), shortB_iff.1 (by simp_all)⟩
                     · intro h
                       have := h.r1
                       omega)
            ·
              clear H79
              try simp only [decide_eq_true_eq, decide_eq_false_iff_not, Bool.or_eq_true, Bool.and_eq_true, Bool.or_eq_false_iff, Bool.and_eq_false_iff, Bool.not_eq_true', Bool.not_eq_false', Int.not_lt, Int.not_le, ne_eq, Decidable.not_not] at hg4_12
              refine wl_off (d := 38) H80 rfl rfl rfl rfl rfl rfl fun a39 H100 => ?_
              clear H80 a38
              refine wl_off (d := 38) H100 rfl rfl rfl rfl rfl rfl fun a40 H101 => ?_
              clear H100 a39
              refine wl_off (d := 38) H101 rfl rfl rfl rfl rfl rfl fun a41 H102 => ?_
              clear H101 a40
              refine wl_off (d := 38) H102 rfl rfl rfl rfl rfl rfl fun a42 H103 => ?_
              clear H102 a41
              refine wl_off (d := 38) H103 rfl rfl rfl rfl rfl rfl fun a43 H104 => ?_
              clear H103 a42
              refine wl_off (d := 38) H104 rfl rfl rfl rfl rfl rfl fun a44 H105 => ?_
              clear H104 a43
              refine wl1 H105 (r_pick_f rfl rfl) rfl rfl rfl rfl fun a45 H106 => ?_
              clear H105 a44
              refine wl1 H106 (r_move rfl) rfl rfl rfl rfl fun a46 H107 => ?_
              clear H106 a45
              refine wl_off (d := 46) H107 rfl rfl rfl rfl rfl rfl fun a47 H108 => ?_
              clear H107 a46
              refine wl_off (d := 46) H108 rfl rfl rfl rfl rfl rfl fun a48 H109 => ?_
              clear H108 a47
              refine wl_off (d := 46) H109 rfl rfl rfl rfl rfl rfl fun a49 H110 => ?_
              clear H109 a48
              refine wl1 H110 (r_pick_f rfl rfl) rfl rfl rfl rfl fun a50 H111 => ?_
              clear H110 a49
              refine wl1 H111 (r_assign rfl) rfl rfl rfl rfl fun a51 H112 => ?_
              clear H111 a50
              refine wl_end ?_
              refine th_n ?_
              refine wpIn_ret ?_
              refine fin_r H112 (res1 rfl H112 rfl) ?_
              refine ⟨congrArg Value.bool ?_, hN.gr⟩
              first
                | (refine (Bool.eq_false_iff.2 (fun h => ?_)).symm
                   have hv := (lvalid_iff x).1 h
                   have h1 := hv.o
                   have h2 := hv.i
                   have h3 := hv.b0
                   have h4 := hv.b1
                   have h5 := hv.r0
                   have h6 := hv.r1
                   have h7 := shortB_iff.2 hv.so
                   have h8 := shortB_iff.2 hv.si
                   first | omega | (simp_all; done))
                | (rw [Bool.eq_iff_iff, lvalid_iff]
                   simp only [decide_eq_true_eq]
                   constructor
                   · intro h
                     exact ⟨by omega, by omega, by omega, by omega, by omega, by omega, shortB_iff.1 (by simp_all), shortB_iff.1 (by simp_all)⟩
                   · intro h
                     have := h.r1
                     omega)
          ·
            clear H69
            try simp only [decide_eq_true_eq, decide_eq_false_iff_not, Bool.or_eq_true, Bool.and_eq_true, Bool.or_eq_false_iff, Bool.and_eq_false_iff, Bool.not_eq_true', Bool.not_eq_false', Int.not_lt, Int.not_le, ne_eq, Decidable.not_not] at hg4_3
            refine wl_off (d := 29) H70 rfl rfl rfl rfl rfl rfl fun a30 H113 => ?_
            clear H70 a29
            refine wl_off (d := 29) H113 rfl rfl rfl rfl rfl rfl fun a31 H114 => ?_
            clear H113 a30
            refine wl_off (d := 29) H114 rfl rfl rfl rfl rfl rfl fun a32 H115 => ?_
            clear H114 a31
            refine wl_off (d := 29) H115 rfl rfl rfl rfl rfl rfl fun a33 H116 => ?_
            clear H115 a32
            refine wl_off (d := 29) H116 rfl rfl rfl rfl rfl rfl fun a34 H117 => ?_
            clear H116 a33
            refine wl_off (d := 29) H117 rfl rfl rfl rfl rfl rfl fun a35 H118 => ?_
            clear H117 a34
            refine wl_off (d := 29) H118 rfl rfl rfl rfl rfl rfl fun a36 H119 => ?_
            clear H118 a35
            refine wl1 H119 (r_pick_f rfl rfl) rfl rfl rfl rfl fun a37 H120 => ?_
            clear H119 a36
            refine wl1 H120 (r_move rfl) rfl rfl rfl rfl fun a38 H121 => ?_
            clear H120 a37
            refine wl_off (d := 38) H121 rfl rfl rfl rfl rfl rfl fun a39 H122 => ?_
            clear H121 a38
            refine wl_off (d := 38) H122 rfl rfl rfl rfl rfl rfl fun a40 H123 => ?_
            clear H122 a39
            refine wl_off (d := 38) H123 rfl rfl rfl rfl rfl rfl fun a41 H124 => ?_
            clear H123 a40
            refine wl_off (d := 38) H124 rfl rfl rfl rfl rfl rfl fun a42 H125 => ?_
            clear H124 a41
            refine wl_off (d := 38) H125 rfl rfl rfl rfl rfl rfl fun a43 H126 => ?_
            clear H125 a42
            refine wl_off (d := 38) H126 rfl rfl rfl rfl rfl rfl fun a44 H127 => ?_
            clear H126 a43
            refine wl1 H127 (r_pick_f rfl rfl) rfl rfl rfl rfl fun a45 H128 => ?_
            clear H127 a44
            refine wl1 H128 (r_move rfl) rfl rfl rfl rfl fun a46 H129 => ?_
            clear H128 a45
            refine wl_off (d := 46) H129 rfl rfl rfl rfl rfl rfl fun a47 H130 => ?_
            clear H129 a46
            refine wl_off (d := 46) H130 rfl rfl rfl rfl rfl rfl fun a48 H131 => ?_
            clear H130 a47
            refine wl_off (d := 46) H131 rfl rfl rfl rfl rfl rfl fun a49 H132 => ?_
            clear H131 a48
            refine wl1 H132 (r_pick_f rfl rfl) rfl rfl rfl rfl fun a50 H133 => ?_
            clear H132 a49
            refine wl1 H133 (r_assign rfl) rfl rfl rfl rfl fun a51 H134 => ?_
            clear H133 a50
            refine wl_end ?_
            refine th_n ?_
            refine wpIn_ret ?_
            refine fin_r H134 (res1 rfl H134 rfl) ?_
            refine ⟨congrArg Value.bool ?_, hN.gr⟩
            first
              | (refine (Bool.eq_false_iff.2 (fun h => ?_)).symm
                 have hv := (lvalid_iff x).1 h
                 have h1 := hv.o
                 have h2 := hv.i
                 have h3 := hv.b0
                 have h4 := hv.b1
                 have h5 := hv.r0
                 have h6 := hv.r1
                 have h7 := shortB_iff.2 hv.so
                 have h8 := shortB_iff.2 hv.si
                 first | omega | (simp_all; done))
              | (rw [Bool.eq_iff_iff, lvalid_iff]
                 simp only [decide_eq_true_eq]
                 constructor
                 · intro h
                   exact ⟨by omega, by omega, by omega, by omega, by omega, by omega, shortB_iff.1 (by simp_all), shortB_iff.1 (by simp_all)⟩
                 · intro h
                   have := h.r1
                   omega)
set_option maxRecDepth 100000 in
set_option maxHeartbeats 1000000 in
theorem rvalid_ret {A1 A2 : Option Addr} {c1 c2 : Nat} {x : Lk} {I : Im} {w : World} (hS : Sat I w) (hL : LkAt I x A1 c1 A2 c2) :
    Ret Try.prog 16 [.agg #[.int .u64 x.key, .slice A1 x.out.length c1, .int .i64 x.base, .slice A2 x.inn.length c2, .int .i64 x.rcv]] w (fun v w' => v = .bool (lvalid x) ∧ Gr w w') := by
  have hol := hL.oe.1
  have hil := hL.ie.1
  refine ret_of (N := 50) Try.func16 rfl rfl rfl fun a0 H0 => ?_
  have hN := New.refl hS
  simp only [argsEnv, Nat.zero_add, Nat.reduceAdd] at H0
  refine wpIn_seq ?_
  refine w_reg ?_
  refine s_box H0 rfl rfl hN fun w1 b1 hN gw1 hB1 hgeb1 heb1 a1 H1 => ?_
  clear H0 a0
  replace hB1 : Box _ _ _ [_, _, _, _, _] 26 := hB1
  refine wl1 H1 (r_assign rfl) rfl rfl rfl rfl fun a2 H2 => ?_
  clear H1 a1
  refine wl_end ?_
  refine th_n ?_
  refine wpIn_seq ?_
  refine wpIn_seq ?_
  refine w_reg ?_
  refine wl1 H2 (r_fld fld26_1 rfl) rfl rfl rfl rfl fun a3 H3 => ?_
  clear H2 a2
  refine wl1 H3 (r_load sc24 rfl (hB1.cell rfl)) rfl rfl rfl rfl fun a4 H4 => ?_
  clear H3 a3
  refine wl1 H4 (r_len Try.underlying24 rfl) rfl rfl rfl rfl fun a5 H5 => ?_
  clear H4 a4
  refine wl1 H5 (r_gtr rfl rfl) rfl rfl rfl rfl fun a6 H6 => ?_
  clear H5 a5
  refine wl1 H6 (r_move rfl) rfl rfl rfl rfl fun a7 H7 => ?_
  clear H6 a6
  refine wl_split (t := 7) H7 rfl (fun hg1_4 H8 => ?_) (fun hg1_4 H8 => ?_)
  ·
    clear H7
    try simp only [decide_eq_true_eq, decide_eq_false_iff_not, Bool.or_eq_true, Bool.and_eq_true, Bool.or_eq_false_iff, Bool.and_eq_false_iff, Bool.not_eq_true', Bool.not_eq_false', Int.not_lt, Int.not_le, ne_eq, Decidable.not_not] at hg1_4
    refine wl_off (d := 7) H8 rfl rfl rfl rfl rfl rfl fun a8 H9 => ?_
    clear H8 a7
    refine wl_off (d := 7) H9 rfl rfl rfl rfl rfl rfl fun a9 H10 => ?_
    clear H9 a8
    refine wl_off (d := 7) H10 rfl rfl rfl rfl rfl rfl fun a10 H11 => ?_
    clear H10 a9
    refine wl_off (d := 7) H11 rfl rfl rfl rfl rfl rfl fun a11 H12 => ?_
    clear H11 a10
    refine wl1 H12 (r_pick_t rfl rfl) rfl rfl rfl rfl fun a12 H13 => ?_
    clear H12 a11
    refine wl1 H13 (r_move rfl) rfl rfl rfl rfl fun a13 H14 => ?_
    clear H13 a12
    refine wl_off (d := 13) H14 rfl rfl rfl rfl rfl rfl fun a14 H15 => ?_
    clear H14 a13
    refine wl_off (d := 13) H15 rfl rfl rfl rfl rfl rfl fun a15 H16 => ?_
    clear H15 a14
    refine wl_off (d := 13) H16 rfl rfl rfl rfl rfl rfl fun a16 H17 => ?_
    clear H16 a15
    refine wl_off (d := 13) H17 rfl rfl rfl rfl rfl rfl fun a17 H18 => ?_
    clear H17 a16
    refine wl1 H18 (r_pick_t rfl rfl) rfl rfl rfl rfl fun a18 H19 => ?_
    clear H18 a17
    refine wl1 H19 (r_move rfl) rfl rfl rfl rfl fun a19 H20 => ?_
    clear H19 a18
    refine wl_off (d := 19) H20 rfl rfl rfl rfl rfl rfl fun a20 H21 => ?_
    clear H20 a19
    refine wl_off (d := 19) H21 rfl rfl rfl rfl rfl rfl fun a21 H22 => ?_
    clear H21 a20
    refine wl_off (d := 19) H22 rfl rfl rfl rfl rfl rfl fun a22 H23 => ?_
    clear H22 a21
    refine wl_off (d := 19) H23 rfl rfl rfl rfl rfl rfl fun a23 H24 => ?_
    clear H23 a22
    refine wl1 H24 (r_pick_t rfl rfl) rfl rfl rfl rfl fun a24 H25 => ?_
    clear H24 a23
    refine wl_end ?_
    refine th_n ?_
    refine w_tt H25 rfl rfl ?_
    refine wpIn_seq ?_
    refine w_reg ?_
    refine wl1 H25 (r_assign rfl) rfl rfl rfl rfl fun a25 H26 => ?_
    clear H25 a24
    refine wl_end ?_
    refine th_n ?_
    refine wpIn_ret ?_
    refine th_r ?_
    refine fin_r H26 (res1 rfl H26 rfl) ?_
    refine ⟨congrArg Value.bool ?_, hN.gr⟩
    first
      | (refine (Bool.eq_false_iff.2 (fun h => ?_)).symm
         have hv := (lvalid_iff x).1 h
         have h1 := hv.o
         have h2 := hv.i
         have h3 := hv.b0
         have h4 := hv.b1
         have h5 := hv.r0
         have h6 := hv.r1
         have h7 := shortB_iff.2 hv.so
         have h8 := shortB_iff.2 hv.si
         first | omega | (simp_all; done))
      | (rw [Bool.eq_iff_iff, lvalid_iff]
         simp only [decide_eq_true_eq]
         constructor
         · intro h
           exact ⟨by omega, by omega, by omega, by omega, by omega, by omega, shortB_iff.1 (by simp_all), shortB_iff.1 (by simp_all)⟩
         · intro h
           have := h.r1
           omega)
  ·
    clear H7
    try simp only [decide_eq_true_eq, decide_eq_false_iff_not, Bool.or_eq_true, Bool.and_eq_true, Bool.or_eq_false_iff, Bool.and_eq_false_iff, Bool.not_eq_true', Bool.not_eq_false', Int.not_lt, Int.not_le, ne_eq, Decidable.not_not] at hg1_4
    refine wl_on (d := 7) H8 rfl rfl rfl ?_
    refine wl1 H8 (r_fld fld26_3 rfl) rfl rfl rfl rfl fun a8 H27 => ?_
    clear H8 a7
    refine wl_on (d := 7) H27 rfl rfl rfl ?_
    refine wl1 H27 (r_load sc24 rfl (hB1.cell rfl)) rfl rfl rfl rfl fun a9 H28 => ?_
    clear H27 a8
    refine wl_on (d := 7) H28 rfl rfl rfl ?_
    refine wl1 H28 (r_len Try.underlying24 rfl) rfl rfl rfl rfl fun a10 H29 => ?_
    clear H28 a9
    refine wl_on (d := 7) H29 rfl rfl rfl ?_
    refine wl1 H29 (r_gtr rfl rfl) rfl rfl rfl rfl fun a11 H30 => ?_
    clear H29 a10
    refine wl1 H30 (r_pick_f rfl rfl) rfl rfl rfl rfl fun a12 H31 => ?_
    clear H30 a11
    refine wl1 H31 (r_move rfl) rfl rfl rfl rfl fun a13 H32 => ?_
    clear H31 a12
    refine wl_split (t := 13) H32 rfl (fun hg1_10 H33 => ?_) (fun hg1_10 H33 => ?_)
    ·
      clear H32
      try simp only [decide_eq_true_eq, decide_eq_false_iff_not, Bool.or_eq_true, Bool.and_eq_true, Bool.or_eq_false_iff, Bool.and_eq_false_iff, Bool.not_eq_true', Bool.not_eq_false', Int.not_lt, Int.not_le, ne_eq, Decidable.not_not] at hg1_10
      refine wl_off (d := 13) H33 rfl rfl rfl rfl rfl rfl fun a14 H34 => ?_
      clear H33 a13
      refine wl_off (d := 13) H34 rfl rfl rfl rfl rfl rfl fun a15 H35 => ?_
      clear H34 a14
      refine wl_off (d := 13) H35 rfl rfl rfl rfl rfl rfl fun a16 H36 => ?_
      clear H35 a15
      refine wl_off (d := 13) H36 rfl rfl rfl rfl rfl rfl fun a17 H37 => ?_
      clear H36 a16
      refine wl1 H37 (r_pick_t rfl rfl) rfl rfl rfl rfl fun a18 H38 => ?_
      clear H37 a17
      refine wl1 H38 (r_move rfl) rfl rfl rfl rfl fun a19 H39 => ?_
      clear H38 a18
      refine wl_off (d := 19) H39 rfl rfl rfl rfl rfl rfl fun a20 H40 => ?_
      clear H39 a19
      refine wl_off (d := 19) H40 rfl rfl rfl rfl rfl rfl fun a21 H41 => ?_
      clear H40 a20
      refine wl_off (d := 19) H41 rfl rfl rfl rfl rfl rfl fun a22 H42 => ?_
      clear H41 a21
      refine wl_off (d := 19) H42 rfl rfl rfl rfl rfl rfl fun a23 H43 => ?_
      clear H42 a22
      refine wl1 H43 (r_pick_t rfl rfl) rfl rfl rfl rfl fun a24 H44 => ?_
      clear H43 a23
      refine wl_end ?_
      refine th_n ?_
      refine w_tt H44 rfl rfl ?_
      refine wpIn_seq ?_
      refine w_reg ?_
      refine wl1 H44 (r_assign rfl) rfl rfl rfl rfl fun a25 H45 => ?_
      clear H44 a24
      refine wl_end ?_
      refine th_n ?_
      refine wpIn_ret ?_
      refine th_r ?_
      refine fin_r H45 (res1 rfl H45 rfl) ?_
      refine ⟨congrArg Value.bool ?_, hN.gr⟩
      first
        | (refine (Bool.eq_false_iff.2 (fun h => ?_)).symm
           have hv := (lvalid_iff x).1 h
           have h1 := hv.o
           have h2 := hv.i
           have h3 := hv.b0
           have h4 := hv.b1
           have h5 := hv.r0
           have h6 := hv.r1
           have h7 := shortB_iff.2 hv.so
           have h8 := shortB_iff.2 hv.si
           first | omega | (simp_all; done))
        | (rw [Bool.eq_iff_iff, lvalid_iff]
           simp only [decide_eq_true_eq]
           constructor
           · intro h
             exact ⟨by omega, by omega, by omega, by omega, by omega, by omega, shortB_iff.1 (by simp_all), shortB_iff.1 (by simp_all)⟩
           · intro h
             have := h.r1
             omega)
    ·
      clear H32
      try simp only [decide_eq_true_eq, decide_eq_false_iff_not, Bool.or_eq_true, Bool.and_eq_true, Bool.or_eq_false_iff, Bool.and_eq_false_iff, Bool.not_eq_true', Bool.not_eq_false', Int.not_lt, Int.not_le, ne_eq, Decidable.not_not] at hg1_10
      refine wl_on (d := 13) H33 rfl rfl rfl ?_
      refine wl1 H33 (r_fld fld26_1 rfl) rfl rfl rfl rfl fun a14 H46 => ?_
      clear H33 a13
      refine wl_on (d := 13) H46 rfl rfl rfl ?_
      refine wl1 H46 (r_load sc24 rfl (hB1.cell rfl)) rfl rfl rfl rfl fun a15 H47 => ?_
      clear H46 a14
      refine wl_on (d := 13) H47 rfl rfl rfl ?_
      refine wlc  H47 rfl rfl hb39 rfl (rshort hN.sat hL.oe) fun v w2 hR a16 H48 => ?_
      clear H47 a15
      obtain ⟨rfl, gw2⟩ := hR
      have hN := hN.ofGr gw2
      replace hB1 := hB1.gr gw2
      refine wl_on (d := 13) H48 rfl rfl rfl ?_
      refine wl1 H48 (r_not rfl) rfl rfl rfl rfl fun a17 H49 => ?_
      clear H48 a16
      refine wl1 H49 (r_pick_f rfl rfl) rfl rfl rfl rfl fun a18 H50 => ?_
      clear H49 a17
      refine wl1 H50 (r_move rfl) rfl rfl rfl rfl fun a19 H51 => ?_
      clear H50 a18
      refine wl_split (t := 19) H51 rfl (fun hg1_16 H52 => ?_) (fun hg1_16 H52 => ?_)
      ·
        clear H51
        try simp only [decide_eq_true_eq, decide_eq_false_iff_not, Bool.or_eq_true, Bool.and_eq_true, Bool.or_eq_false_iff, Bool.and_eq_false_iff, Bool.not_eq_true', Bool.not_eq_false', Int.not_lt, Int.not_le, ne_eq, Decidable.not_not] at hg1_16
        refine wl_off (d := 19) H52 rfl rfl rfl rfl rfl rfl fun a20 H53 => ?_
        clear H52 a19
        refine wl_off (d := 19) H53 rfl rfl rfl rfl rfl rfl fun a21 H54 => ?_
        clear H53 a20
        refine wl_off (d := 19) H54 rfl rfl rfl rfl rfl rfl fun a22 H55 => ?_
        clear H54 a21
        refine wl_off (d := 19) H55 rfl rfl rfl rfl rfl rfl fun a23 H56 => ?_
        clear H55 a22
        refine wl1 H56 (r_pick_t rfl rfl) rfl rfl rfl rfl fun a24 H57 => ?_
        clear H56 a23
        refine wl_end ?_
        refine th_n ?_
        refine w_tt H57 rfl rfl ?_
        refine wpIn_seq ?_
        refine w_reg ?_
        refine wl1 H57 (r_assign rfl) rfl rfl rfl rfl fun a25 H58 => ?_
        clear H57 a24
        refine wl_end ?_
        refine th_n ?_
        refine wpIn_ret ?_
        refine th_r ?_
        refine fin_r H58 (res1 rfl H58 rfl) ?_
        refine ⟨congrArg Value.bool ?_, hN.gr⟩
        first
          | (refine (Bool.eq_false_iff.2 (fun h => ?_)).symm
             have hv := (lvalid_iff x).1 h
             have h1 := hv.o
             have h2 := hv.i
             have h3 := hv.b0
             have h4 := hv.b1
             have h5 := hv.r0
             have h6 := hv.r1
             have h7 := shortB_iff.2 hv.so
             have h8 := shortB_iff.2 hv.si
             first | omega | (simp_all; done))
          | (rw [Bool.eq_iff_iff, lvalid_iff]
             simp only [decide_eq_true_eq]
             constructor
             · intro h
               exact ⟨by omega, by omega, by omega, by omega, by omega, by omega, shortB_iff.1 (by simp_all), shortB_iff.1 (by simp_all)⟩
             · intro h
               have := h.r1
               omega)
      ·
        clear H51
        try simp only [decide_eq_true_eq, decide_eq_false_iff_not, Bool.or_eq_true, Bool.and_eq_true, Bool.or_eq_false_iff, Bool.and_eq_false_iff, Bool.not_eq_true', Bool.not_eq_false', Int.not_lt, Int.not_le, ne_eq, Decidable.not_not] at hg1_16
        refine wl_on (d := 19) H52 rfl rfl rfl ?_
        refine wl1 H52 (r_fld fld26_3 rfl) rfl rfl rfl rfl fun a20 H59 => ?_
        clear H52 a19
        refine wl_on (d := 19) H59 rfl rfl rfl ?_
        refine wl1 H59 (r_load sc24 rfl (hB1.cell rfl)) rfl rfl rfl rfl fun a21 H60 => ?_
        clear H59 a20
        refine wl_on (d := 19) H60 rfl rfl rfl ?_
        refine wlc  H60 rfl rfl hb39 rfl (rshort hN.sat hL.ie) fun v w3 hR a22 H61 => ?_
        clear H60 a21
        obtain ⟨rfl, gw3⟩ := hR
        have hN := hN.ofGr gw3
        replace hB1 := hB1.gr gw3
        refine wl_on (d := 19) H61 rfl rfl rfl ?_
        refine wl1 H61 (r_not rfl) rfl rfl rfl rfl fun a23 H62 => ?_
        clear H61 a22
        refine wl1 H62 (r_pick_f rfl rfl) rfl rfl rfl rfl fun a24 H63 => ?_
        clear H62 a23
        refine wl_end ?_
        refine th_n ?_
        first | refine w_if H63 rfl (fun hc24 => ?_) (fun hc24 => ?_) | refine w_cond H63 rfl (fun hc24 => ?_) (fun hc24 => ?_)
        ·
          try simp only [decide_eq_true_eq, decide_eq_false_iff_not, Bool.or_eq_true, Bool.and_eq_true, Bool.or_eq_false_iff, Bool.and_eq_false_iff, Bool.not_eq_true', Bool.not_eq_false', Int.not_lt, Int.not_le, ne_eq, Decidable.not_not] at hc24
          refine wpIn_seq ?_
          refine w_reg ?_
          refine wl1 H63 (r_assign rfl) rfl rfl rfl rfl fun a25 H64 => ?_
          clear H63 a24
          refine wl_end ?_
          refine th_n ?_
          refine wpIn_ret ?_
          refine th_r ?_
          refine fin_r H64 (res1 rfl H64 rfl) ?_
          refine ⟨congrArg Value.bool ?_, hN.gr⟩
          first
            | (refine (Bool.eq_false_iff.2 (fun h => ?_)).symm
               have hv := (lvalid_iff x).1 h
               have h1 := hv.o
               have h2 := hv.i
               have h3 := hv.b0
               have h4 := hv.b1
               have h5 := hv.r0
               have h6 := hv.r1
               have h7 := shortB_iff.2 hv.so
               have h8 := shortB_iff.2 hv.si
               first | omega | (simp_all; done))
            | (rw [Bool.eq_iff_iff, lvalid_iff]
               simp only [decide_eq_true_eq]
               constructor
               · intro h
                 exact ⟨by omega, by omega, by omega, by omega, by omega, by omega, shortB_iff.1 (by simp_all), shortB_iff.1 (by simp_all)⟩
               · intro h
                 have := h.r1
                 omega)
        ·
          try simp only [decide_eq_true_eq, decide_eq_false_iff_not, Bool.or_eq_true, Bool.and_eq_true, Bool.or_eq_false_iff, Bool.and_eq_false_iff, Bool.not_eq_true', Bool.not_eq_false', Int.not_lt, Int.not_le, ne_eq, Decidable.not_not] at hc24
          refine wpIn_skip ?_
          refine th_n ?_
          refine wpIn_seq ?_
          refine w_reg ?_
          refine wl1 H63 (r_fld fld26_2 rfl) rfl rfl rfl rfl fun a25 H65 => ?_
          clear H63 a24
          refine wl1 H65 (r_load sc3 rfl (hB1.cell rfl)) rfl rfl rfl rfl fun a26 H66 => ?_
          clear H65 a25
          refine wl1 H66 (r_geq rfl rfl) rfl rfl rfl rfl fun a27 H67 => ?_
          clear H66 a26
          refine wl1 H67 (r_move rfl) rfl rfl rfl rfl fun a28 H68 => ?_
          clear H67 a27
          refine wl_split (t := 28) H68 rfl (fun hg3_3 H69 => ?_) (fun hg3_3 H69 => ?_)
          ·
            clear H68
            try simp only [decide_eq_true_eq, decide_eq_false_iff_not, Bool.or_eq_true, Bool.and_eq_true, Bool.or_eq_false_iff, Bool.and_eq_false_iff, Bool.not_eq_true', Bool.not_eq_false', Int.not_lt, Int.not_le, ne_eq, Decidable.not_not] at hg3_3
            refine wl_on (d := 28) H69 rfl rfl rfl ?_
            refine wl1 H69 (r_fld fld26_2 rfl) rfl rfl rfl rfl fun a29 H70 => ?_
            clear H69 a28
            refine wl_on (d := 28) H70 rfl rfl rfl ?_
            refine wl1 H70 (r_load sc3 rfl (hB1.cell rfl)) rfl rfl rfl rfl fun a30 H71 => ?_
            clear H70 a29
            refine wl_on (d := 28) H71 rfl rfl rfl ?_
            refine wl1 H71 (r_fld fld26_1 rfl) rfl rfl rfl rfl fun a31 H72 => ?_
            clear H71 a30
            refine wl_on (d := 28) H72 rfl rfl rfl ?_
            refine wl1 H72 (r_load sc24 rfl (hB1.cell rfl)) rfl rfl rfl rfl fun a32 H73 => ?_
            clear H72 a31
            refine wl_on (d := 28) H73 rfl rfl rfl ?_
            refine wl1 H73 (r_len Try.underlying24 rfl) rfl rfl rfl rfl fun a33 H74 => ?_
            clear H73 a32
            refine wl_on (d := 28) H74 rfl rfl rfl ?_
            first | refine wl1 H74 (r_subk rfl rfl (by simp only [InK]; omega)) rfl rfl rfl rfl fun a34 H75 => ?_ | refine wl1 H74 (r_sub rfl rfl) rfl rfl rfl rfl fun a34 H75 => ?_
            clear H74 a33
            refine wl_on (d := 28) H75 rfl rfl rfl ?_
            refine wl1 H75 (r_leq rfl rfl) rfl rfl rfl rfl fun a35 H76 => ?_
            clear H75 a34
            refine wl1 H76 (r_pick_t rfl rfl) rfl rfl rfl rfl fun a36 H77 => ?_
            clear H76 a35
            refine wl1 H77 (r_move rfl) rfl rfl rfl rfl fun a37 H78 => ?_
            clear H77 a36
            refine wl_split (t := 37) H78 rfl (fun hg3_12 H79 => ?_) (fun hg3_12 H79 => ?_)
            ·
              clear H78
              try simp only [decide_eq_true_eq, decide_eq_false_iff_not, Bool.or_eq_true, Bool.and_eq_true, Bool.or_eq_false_iff, Bool.and_eq_false_iff, Bool.not_eq_true', Bool.not_eq_false', Int.not_lt, Int.not_le, ne_eq, Decidable.not_not] at hg3_12
              refine wl_on (d := 37) H79 rfl rfl rfl ?_
              refine wl1 H79 (r_fld fld26_4 rfl) rfl rfl rfl rfl fun a38 H80 => ?_
              clear H79 a37
              refine wl_on (d := 37) H80 rfl rfl rfl ?_
              refine wl1 H80 (r_load sc3 rfl (hB1.cell rfl)) rfl rfl rfl rfl fun a39 H81 => ?_
              clear H80 a38
              refine wl_on (d := 37) H81 rfl rfl rfl ?_
              refine wl1 H81 (r_fld fld26_3 rfl) rfl rfl rfl rfl fun a40 H82 => ?_
              clear H81 a39
              refine wl_on (d := 37) H82 rfl rfl rfl ?_
              refine wl1 H82 (r_load sc24 rfl (hB1.cell rfl)) rfl rfl rfl rfl fun a41 H83 => ?_
              clear H82 a40
              refine wl_on (d := 37) H83 rfl rfl rfl ?_
              refine wl1 H83 (r_len Try.underlying24 rfl) rfl rfl rfl rfl fun a42 H84 => ?_
              clear H83 a41
              refine wl_on (d := 37) H84 rfl rfl rfl ?_
              refine wl1 H84 (r_geq rfl rfl) rfl rfl rfl rfl fun a43 H85 => ?_
              clear H84 a42
              refine wl1 H85 (r_pick_t rfl rfl) rfl rfl rfl rfl fun a44 H86 => ?_
              clear H85 a43
              refine wl1 H86 (r_move rfl) rfl rfl rfl rfl fun a45 H87 => ?_
              clear H86 a44
              refine wl_split (t := 45) H87 rfl (fun hg3_20 H88 => ?_) (fun hg3_20 H88 => ?_)
              ·
                clear H87
                try simp only [decide_eq_true_eq, decide_eq_false_iff_not, Bool.or_eq_true, Bool.and_eq_true, Bool.or_eq_false_iff, Bool.and_eq_false_iff, Bool.not_eq_true', Bool.not_eq_false', Int.not_lt, Int.not_le, ne_eq, Decidable.not_not] at hg3_20
                refine wl_on (d := 45) H88 rfl rfl rfl ?_
                refine wl1 H88 (r_fld fld26_4 rfl) rfl rfl rfl rfl fun a46 H89 => ?_
                clear H88 a45
                refine wl_on (d := 45) H89 rfl rfl rfl ?_
                refine wl1 H89 (r_load sc3 rfl (hB1.cell rfl)) rfl rfl rfl rfl fun a47 H90 => ?_
                clear H89 a46
                refine wl_on (d := 45) H90 rfl rfl rfl ?_
                refine wl1 H90 (r_leq rfl rfl) rfl rfl rfl rfl fun a48 H91 => ?_
                clear H90 a47
                refine wl1 H91 (r_pick_t rfl rfl) rfl rfl rfl rfl fun a49 H92 => ?_
                clear H91 a48
                refine wl1 H92 (r_assign rfl) rfl rfl rfl rfl fun a50 H93 => ?_
                clear H92 a49
                refine wl_end ?_
                refine th_n ?_
                refine wpIn_ret ?_
                refine fin_r H93 (res1 rfl H93 rfl) ?_
                refine ⟨congrArg Value.bool ?_, hN.gr⟩
                first
                  | (refine (Bool.eq_false_iff.2 (fun h => ?_)).symm
                     have hv := (lvalid_iff x).1 h
                     have h1 := hv.o
                     have h2 := hv.i
                     have h3 := hv.b0
                     have h4 := hv.b1
                     have h5 := hv.r0
                     have h6 := hv.r1
                     have h7 := shortB_iff.2 hv.so
                     have h8 := shortB_iff.2 hv.si
                     first | omega | (simp_all; done))
                  | (rw [Bool.eq_iff_iff, lvalid_iff]
                     simp only [decide_eq_true_eq]
                     constructor
                     · intro h
                       exact ⟨by omega, by omega, by omega, by omega, by omega, by omega, shortB_iff.1 (by simp_all), shortB_iff.1 (by simp_all)⟩
                     · intro h
                       have := h.r1
                       omega)
              ·
                clear H87
                try simp only [decide_eq_true_eq, decide_eq_false_iff_not, Bool.or_eq_true, Bool.and_eq_true, Bool.or_eq_false_iff, Bool.and_eq_false_iff, Bool.not_eq_true', Bool.not_eq_false', Int.not_lt, Int.not_le, ne_eq, Decidable.not_not] at hg3_20
                refine wl_off (d := 45) H88 rfl rfl rfl rfl rfl rfl fun a46 H94 => ?_
                clear H88 a45
                refine wl_off (d := 45) H94 rfl rfl rfl rfl rfl rfl fun a47 H95 => ?_
                clear H94 a46
                refine wl_off (d := 45) H95 rfl rfl rfl rfl rfl rfl fun a48 H96 => ?_
                clear H95 a47
                refine wl1 H96 (r_pick_f rfl rfl) rfl rfl rfl rfl fun a49 H97 => ?_
                clear H96 a48
                refine wl1 H97 (r_assign rfl) rfl rfl rfl rfl fun a50 H98 => ?_
                clear H97 a49
                refine wl_end ?_
                refine th_n ?_
                refine wpIn_ret ?_
                refine fin_r H98 (res1 rfl H98 rfl) ?_
                refine ⟨congrArg Value.bool ?_, hN.gr⟩
                first
                  | (refine (Bool.eq_false_iff.2 (fun h => ?_)).symm
                     have hv := (lvalid_iff x).1 h
                     have h1 := hv.o
                     have h2 := hv.i
                     have h3 := hv.b0
                     have h4 := hv.b1
                     have h5 := hv.r0
                     have h6 := hv.r1
                     have h7 := shortB_iff.2 hv.so
                     have h8 := shortB_iff.2 hv.si
                     first | omega | (simp_all; done))
                  | (rw [Bool.eq_iff_iff, lvalid_iff]
                     simp only [decide_eq_true_eq]
                     constructor
                     · intro h
                       exact ⟨by omega, by omega, by omega, by omega, by omega, by omega, shortB_iff.1 (by simp_all), shortB_iff.1 (by simp_all)⟩
                     · intro h
                       have := h.r1
                       omega)
            ·
              clear H78
              try simp only [decide_eq_true_eq, decide_eq_false_iff_not, Bool.or_eq_true, Bool.and_eq_true, Bool.or_eq_false_iff, Bool.and_eq_false_iff, Bool.not_eq_true', Bool.not_eq_false', Int.not_lt, Int.not_le, ne_eq, Decidable.not_not] at hg3_12
              refine wl_off (d := 37) H79 rfl rfl rfl rfl rfl rfl fun a38 H99 => ?_
              clear H79 a37
              refine wl_off (d := 37) H99 rfl rfl rfl rfl rfl rfl fun a39 H100 => ?_
              clear H99 a38
              refine wl_off (d := 37) H100 rfl rfl rfl rfl rfl rfl fun a40 H101 => ?_
              clear H100 a39
              refine wl_off (d := 37) H101 rfl rfl rfl rfl rfl rfl fun a41 H102 => ?_
              clear H101 a40
              refine wl_off (d := 37) H102 rfl rfl rfl rfl rfl rfl fun a42 H103 => ?_
              clear H102 a41
              refine wl_off (d := 37) H103 rfl rfl rfl rfl rfl rfl fun a43 H104 => ?_
              clear H103 a42
              refine wl1 H104 (r_pick_f rfl rfl) rfl rfl rfl rfl fun a44 H105 => ?_
              clear H104 a43
              refine wl1 H105 (r_move rfl) rfl rfl rfl rfl fun a45 H106 => ?_
              clear H105 a44
              refine wl_off (d := 45) H106 rfl rfl rfl rfl rfl rfl fun a46 H107 => ?_
              clear H106 a45
              refine wl_off (d := 45) H107 rfl rfl rfl rfl rfl rfl fun a47 H108 => ?_
              clear H107 a46
              refine wl_off (d := 45) H108 rfl rfl rfl rfl rfl rfl fun a48 H109 => ?_
              clear H108 a47
              refine wl1 H109 (r_pick_f rfl rfl) rfl rfl rfl rfl fun a49 H110 => ?_
              clear H109 a48
              refine wl1 H110 (r_assign rfl) rfl rfl rfl rfl fun a50 H111 => ?_
              clear H110 a49
              refine wl_end ?_
              refine th_n ?_
              refine wpIn_ret ?_
              refine fin_r H111 (res1 rfl H111 rfl) ?_
              refine ⟨congrArg Value.bool ?_, hN.gr⟩
              first
                | (refine (Bool.eq_false_iff.2 (fun h => ?_)).symm
                   have hv := (lvalid_iff x).1 h
                   have h1 := hv.o
                   have h2 := hv.i
                   have h3 := hv.b0
                   have h4 := hv.b1
                   have h5 := hv.r0
                   have h6 := hv.r1
                   have h7 := shortB_iff.2 hv.so
                   have h8 := shortB_iff.2 hv.si
                   first | omega | (simp_all; done))
                | (rw [Bool.eq_iff_iff, lvalid_iff]
                   simp only [decide_eq_true_eq]
                   constructor
                   · intro h
                     exact ⟨by omega, by omega, by omega, by omega, by omega, by omega, shortB_iff.1 (by simp_all), shortB_iff.1 (by simp_all)⟩
                   · intro h
                     have := h.r1
                     omega)
          ·
            clear H68
            try simp only [decide_eq_true_eq, decide_eq_false_iff_not, Bool.or_eq_true, Bool.and_eq_true, Bool.or_eq_false_iff, Bool.and_eq_false_iff, Bool.not_eq_true', Bool.not_eq_false', Int.not_lt, Int.not_le, ne_eq, Decidable.not_not] at hg3_3
            refine wl_off (d := 28) H69 rfl rfl rfl rfl rfl rfl fun a29 H112 => ?_
            clear H69 a28
            refine wl_off (d := 28) H112 rfl rfl rfl rfl rfl rfl fun a30 H113 => ?_
            clear H112 a29
            refine wl_off (d := 28) H113 rfl rfl rfl rfl rfl rfl fun a31 H114 => ?_
            clear H113 a30
            refine wl_off (d := 28) H114 rfl rfl rfl rfl rfl rfl fun a32 H115 => ?_
            clear H114 a31
            refine wl_off (d := 28) H115 rfl rfl rfl rfl rfl rfl fun a33 H116 => ?_
            clear H115 a32
            refine wl_off (d := 28) H116 rfl rfl rfl rfl rfl rfl fun a34 H117 => ?_
            clear H116 a33
            refine wl_off (d := 28) H117 rfl rfl rfl rfl rfl rfl fun a35 H118 => ?_
            clear H117 a34
            refine wl1 H118 (r_pick_f rfl rfl) rfl rfl rfl rfl fun a36 H119 => ?_
            clear H118 a35
            refine wl1 H119 (r_move rfl) rfl rfl rfl rfl fun a37 H120 => ?_
            clear H119 a36
            refine wl_off (d := 37) H120 rfl rfl rfl rfl rfl rfl fun a38 H121 => ?_
            clear H120 a37
            refine wl_off (d := 37) H121 rfl rfl rfl rfl rfl rfl fun a39 H122 => ?_
            clear H121 a38
            refine wl_off (d := 37) H122 rfl rfl rfl rfl rfl rfl fun a40 H123 => ?_
            clear H122 a39
            refine wl_off (d := 37) H123 rfl rfl rfl rfl rfl rfl fun a41 H124 => ?_
            clear H123 a40
            refine wl_off (d := 37) H124 rfl rfl rfl rfl rfl rfl fun a42 H125 => ?_
            clear H124 a41
            refine wl_off (d := 37) H125 rfl rfl rfl rfl rfl rfl fun a43 H126 => ?_
            clear H125 a42
            refine wl1 H126 (r_pick_f rfl rfl) rfl rfl rfl rfl fun a44 H127 => ?_
            clear H126 a43
            refine wl1 H127 (r_move rfl) rfl rfl rfl rfl fun a45 H128 => ?_
            clear H127 a44
            refine wl_off (d := 45) H128 rfl rfl rfl rfl rfl rfl fun a46 H129 => ?_
            clear H128 a45
            refine wl_off (d := 45) H129 rfl rfl rfl rfl rfl rfl fun a47 H130 => ?_
            clear H129 a46
            refine wl_off (d := 45) H130 rfl rfl rfl rfl rfl rfl fun a48 H131 => ?_
            clear H130 a47
            refine wl1 H131 (r_pick_f rfl rfl) rfl rfl rfl rfl fun a49 H132 => ?_
            clear H131 a48
            refine wl1 H132 (r_assign rfl) rfl rfl rfl rfl fun a50 H133 => ?_
            clear H132 a49
            refine wl_end ?_
            refine th_n ?_
            refine wpIn_ret ?_
            refine fin_r H133 (res1 rfl H133 rfl) ?_
            refine ⟨congrArg Value.bool ?_, hN.gr⟩
            first
              | (refine (Bool.eq_false_iff.2 (fun h => ?_)).symm
                 have hv := (lvalid_iff x).1 h
                 have h1 := hv.o
                 have h2 := hv.i
                 have h3 := hv.b0
                 have h4 := hv.b1
                 have h5 := hv.r0
                 have h6 := hv.r1
                 have h7 := shortB_iff.2 hv.so
                 have h8 := shortB_iff.2 hv.si
                 first | omega | (simp_all; done))
              | (rw [Bool.eq_iff_iff, lvalid_iff]
                 simp only [decide_eq_true_eq]
                 constructor
                 · intro h
                   exact ⟨by omega, by omega, by omega, by omega, by omega, by omega, shortB_iff.1 (by simp_all), shortB_iff.1 (by simp_all)⟩
                 · intro h
                   have := h.r1
                   omega)
set_option maxRecDepth 100000 in
set_option maxHeartbeats 400000 in
theorem rwith50 {A D : Option Addr} {c cd : Nat} {l : List (List Int)} {d : List Int} {I : Im} {w : World} (hS : Sat I w) (hA : Els kB I A l) (hl : l.length ≤ 1048576) (hD : Els (kInt .u8) I D d) (hdc : d.length ≤ cd) :
    Ret Try.prog 43 [.slice A l.length c, .slice D d.length cd] w (Fresh kB I w (l ++ [d])) := by
  refine ret_of (N := 11) Try.func43 rfl rfl rfl fun a0 H0 => ?_
  have hN := New.refl hS
  simp only [argsEnv, Nat.zero_add, Nat.reduceAdd] at H0
  refine wpIn_seq ?_
  refine w_reg ?_
  refine wl1 H0 (r_assign rfl) rfl rfl rfl rfl fun a1 H1 => ?_
  clear H0 a0
  refine wl_end ?_
  refine th_n ?_
  refine wpIn_seq ?_
  refine w_reg ?_
  refine s_lit1 (cs := []) H1 Try.underlying24 sz23 zv23 rfl rfl rfl (by simp [Value.oneCell']) rfl hN fun w1 l5 K1 hKl5 hlel5 hN nw1 hgel5 a2 H2 => ?_
  clear H1 a1
  replace hA := hA.up nw1.le
  replace hD := hD.up nw1.le
  refine wl1 H2 (r_move rfl) rfl rfl rfl rfl fun a3 H3 => ?_
  clear H2 a2
  refine s_app (d := kB) (B := w.heap.size) H3 rfl rfl Try.underlying24 nf23 rfl (by decide) (by decide) rfl hN (.inr ⟨_, rfl, Els.nil _ _ _⟩) hA rfl (Nat.le_refl _) hN.gr.size (by first | omega | (simp; omega)) fun vw2 w2 hO hOO hOO2 kw2 hN a4 H4 => ?_
  clear H3 a3
  rw [List.nil_append] at hO
  refine wl1 H4 (r_move rfl) rfl rfl rfl rfl fun a5 H5 => ?_
  clear H4 a4
  refine s_lit1 (cs := [_]) H5 Try.underlying24 sz23 zv23 rfl rfl rfl (by simp [Value.oneCell']) rfl hN fun w3 l9 K3 hKl9 hlel9 hN nw3 hgel9 a6 H6 => ?_
  clear H5 a5
  replace hA := hA.up nw3.le
  replace hD := hD.up nw3.le
  replace hO := hO.next nw3
  have hE9 : Els kB K3 (some ⟨l9, 0, none⟩) [d] := Els.one hKl9 ⟨_, _, rfl, hdc, hD⟩
  refine s_app (d := kB) (B := w.heap.size) H6 rfl rfl Try.underlying24 nf23 rfl (by decide) (by decide) rfl hN hO hE9 rfl (Nat.le_refl _) hN.gr.size (by first | omega | (simp; omega)) fun vw4 w4 hO hOO hOO2 kw4 hN a7 H7 => ?_
  clear H6 a6
  refine wl1 H7 (r_assign rfl) rfl rfl rfl rfl fun a8 H8 => ?_
  clear H7 a7
  refine wl_end ?_
  refine th_n ?_
  refine wpIn_ret ?_
  refine fin_r H8 (res1 rfl H8 rfl) ?_
  exact hO.fresh hN (Nat.le_refl _)
set_option maxRecDepth 100000 in
set_option maxHeartbeats 400000 in
theorem lwith50 {A D : Option Addr} {c cd : Nat} {l : List (List Int)} {d : List Int} {I : Im} {w : World} (hS : Sat I w) (hA : Els kB I A l) (hl : l.length ≤ 1048576) (hD : Els (kInt .u8) I D d) (hdc : d.length ≤ cd) :
    Ret Try.prog 47 [.slice A l.length c, .slice D d.length cd] w (Fresh kB I w (l ++ [d])) := by
  refine ret_of (N := 11) Try.func47 rfl rfl rfl fun a0 H0 => ?_
  have hN := New.refl hS
  simp only [argsEnv, Nat.zero_add, Nat.reduceAdd] at H0
  refine wpIn_seq ?_
  refine w_reg ?_
  refine wl1 H0 (r_assign rfl) rfl rfl rfl rfl fun a1 H1 => ?_
  clear H0 a0
  refine wl_end ?_
  refine th_n ?_
  refine wpIn_seq ?_
  refine w_reg ?_
  refine s_lit1 (cs := []) H1 Try.underlying24 sz23 zv23 rfl rfl rfl (by simp [Value.oneCell']) rfl hN fun w1 l5 K1 hKl5 hlel5 hN nw1 hgel5 a2 H2 => ?_
  clear H1 a1
  replace hA := hA.up nw1.le
  replace hD := hD.up nw1.le
  refine wl1 H2 (r_move rfl) rfl rfl rfl rfl fun a3 H3 => ?_
  clear H2 a2
  refine s_app (d := kB) (B := w.heap.size) H3 rfl rfl Try.underlying24 nf23 rfl (by decide) (by decide) rfl hN (.inr ⟨_, rfl, Els.nil _ _ _⟩) hA rfl (Nat.le_refl _) hN.gr.size (by first | omega | (simp; omega)) fun vw2 w2 hO hOO hOO2 kw2 hN a4 H4 => ?_
  clear H3 a3
  rw [List.nil_append] at hO
  refine wl1 H4 (r_move rfl) rfl rfl rfl rfl fun a5 H5 => ?_
  clear H4 a4
  refine s_lit1 (cs := [_]) H5 Try.underlying24 sz23 zv23 rfl rfl rfl (by simp [Value.oneCell']) rfl hN fun w3 l9 K3 hKl9 hlel9 hN nw3 hgel9 a6 H6 => ?_
  clear H5 a5
  replace hA := hA.up nw3.le
  replace hD := hD.up nw3.le
  replace hO := hO.next nw3
  have hE9 : Els kB K3 (some ⟨l9, 0, none⟩) [d] := Els.one hKl9 ⟨_, _, rfl, hdc, hD⟩
  refine s_app (d := kB) (B := w.heap.size) H6 rfl rfl Try.underlying24 nf23 rfl (by decide) (by decide) rfl hN hO hE9 rfl (Nat.le_refl _) hN.gr.size (by first | omega | (simp; omega)) fun vw4 w4 hO hOO hOO2 kw4 hN a7 H7 => ?_
  clear H6 a6
  refine wl1 H7 (r_assign rfl) rfl rfl rfl rfl fun a8 H8 => ?_
  clear H7 a7
  refine wl_end ?_
  refine th_n ?_
  refine wpIn_ret ?_
  refine fin_r H8 (res1 rfl H8 rfl) ?_
  exact hO.fresh hN (Nat.le_refl _)
set_option maxRecDepth 100000 in
set_option maxHeartbeats 400000 in
theorem data_ret {D : Option Addr} {cd : Nat} {d : List Int} {k n : Int} {I : Im} {w : World} (hS : Sat I w) (hdc : d.length ≤ cd) :
    Ret Try.prog 46 [.agg #[.int .u8 k, .int .u8 n, .slice D d.length cd]] w (fun v w' => v = .slice D (d.take 6).length cd ∧ Gr w w') := by
  refine ret_of (N := 10) Try.func46 rfl rfl rfl fun a0 H0 => ?_
  have hN := New.refl hS
  simp only [argsEnv, Nat.zero_add, Nat.reduceAdd] at H0
  refine wpIn_seq ?_
  refine w_reg ?_
  refine s_box H0 rfl rfl hN fun w1 b1 hN gw1 hB1 hgeb1 heb1 a1 H1 => ?_
  clear H0 a0
  replace hB1 : Box _ _ _ [_, _, _] 64 := hB1
  refine wl1 H1 (r_assign rfl) rfl rfl rfl rfl fun a2 H2 => ?_
  clear H1 a1
  refine wl_end ?_
  refine th_n ?_
  refine wpIn_seq ?_
  refine w_reg ?_
  refine wl1 H2 (r_fld fld64_2 rfl) rfl rfl rfl rfl fun a3 H3 => ?_
  clear H2 a2
  refine wl1 H3 (r_load sc23 rfl (hB1.cell rfl)) rfl rfl rfl rfl fun a4 H4 => ?_
  clear H3 a3
  refine wl1 H4 (r_fld fld64_2 rfl) rfl rfl rfl rfl fun a5 H5 => ?_
  clear H4 a4
  refine wl1 H5 (r_load sc23 rfl (hB1.cell rfl)) rfl rfl rfl rfl fun a6 H6 => ?_
  clear H5 a5
  refine wl1 H6 (r_len Try.underlying23 rfl) rfl rfl rfl rfl fun a7 H7 => ?_
  clear H6 a6
  refine wl1 H7 (r_min rfl rfl) rfl rfl rfl rfl fun a8 H8 => ?_
  clear H7 a7
  refine wl1 H8 (r_upto (hi := (d.take 6).length) Try.underlying23 sz5 rfl rfl (by simp; omega) (by simp; omega)) rfl rfl rfl rfl fun a9 H9 => ?_
  clear H8 a8
  refine wl1 H9 (r_assign rfl) rfl rfl rfl rfl fun a10 H10 => ?_
  clear H9 a9
  refine wl_end ?_
  refine th_n ?_
  refine wpIn_ret ?_
  refine fin_r H10 (res1 rfl H10 rfl) ?_
  exact ⟨rfl, hN.gr⟩
set_option maxRecDepth 100000 in
set_option maxHeartbeats 400000 in
theorem pair_ret {key : Int} {I : Im} {w : World} (hS : Sat I w)  :
    Ret Try.prog 13 [.int .u64 key] w (fun v w' => v = .tuple #[.agg #[.int .u64 key, .slice none 0 0, .int .i64 0, .slice none 0 0, .int .i64 0], .agg #[.int .u64 (key1 key), .slice none 0 0, .int .i64 0, .slice none 0 0, .int .i64 0]] ∧ Gr w w') := by
  refine ret_of (N := 9) Try.func13 rfl rfl rfl fun a0 H0 => ?_
  have hN := New.refl hS
  simp only [argsEnv, Nat.zero_add, Nat.reduceAdd] at H0
  refine wpIn_seq ?_
  refine w_reg ?_
  refine s_alloc H0 zv26 rfl hN fun w1 b2 hN gw1 hB2 hgeb2 heb2 a1 H1 => ?_
  clear H0 a0
  replace hB2 : Box _ _ _ [.int .u64 0, .slice none 0 0, .int .i64 0, .slice none 0 0, .int .i64 0] 26 := hB2
  refine s_alloc H1 zv26 rfl hN fun w2 b3 hN gw2 hB3 hgeb3 heb3 a2 H2 => ?_
  clear H1 a1
  replace hB3 : Box _ _ _ [.int .u64 0, .slice none 0 0, .int .i64 0, .slice none 0 0, .int .i64 0] 26 := hB3
  have hne_hB2_b3 := hB2.lt
  rw [← heb3] at hne_hB2_b3
  replace hB2 := hB2.gr gw2
  refine wl_end ?_
  refine th_n ?_
  refine wpIn_seq ?_
  refine w_reg ?_
  refine wl1 H2 (r_move rfl) rfl rfl rfl rfl fun a3 H3 => ?_
  clear H2 a2
  refine wl1 H3 (r_build (v := .agg #[.int .u64 key, .slice none 0 0, .int .i64 0, .slice none 0 0, .int .i64 0]) rfl (fun w => by kernel_rfl)) rfl rfl rfl rfl fun a4 H4 => ?_
  clear H3 a3
  refine wl1 H4 (r_move rfl) rfl rfl rfl rfl fun a5 H5 => ?_
  clear H4 a4
  refine wl1 H5 (r_xor rfl rfl) rfl rfl rfl rfl fun a6 H6 => ?_
  clear H5 a5
  refine wl1 H6 (r_build (v := .agg #[.int .u64 (key1 key), .slice none 0 0, .int .i64 0, .slice none 0 0, .int .i64 0]) rfl (fun w => by kernel_rfl)) rfl rfl rfl rfl fun a7 H7 => ?_
  clear H6 a6
  refine s_storeA (vs := [_, _, _, _, _]) H7 sz26 (by simp) (by simp [Value.oneCell']) rfl rfl hN hB2 (by simp) hgeb2 fun w3 hN hB2 ew3 H8 => ?_
  clear H7
  replace hB3 := hB3.otherE ew3 (by omega)
  simp only [Nat.zero_add, Nat.add_zero, Nat.reduceAdd, Nat.reduceMul, List.set_cons_zero, List.set_cons_succ, spliceL] at hB2
  clear ew3
  refine s_storeA (vs := [_, _, _, _, _]) H8 sz26 (by simp) (by simp [Value.oneCell']) rfl rfl hN hB3 (by simp) hgeb3 fun w4 hN hB3 ew4 H9 => ?_
  clear H8
  replace hB2 := hB2.otherE ew4 (by omega)
  simp only [Nat.zero_add, Nat.add_zero, Nat.reduceAdd, Nat.reduceMul, List.set_cons_zero, List.set_cons_succ, spliceL] at hB3
  clear ew4
  refine wl_end ?_
  refine th_n ?_
  refine wpIn_ret ?_
  refine fin_r H9 (resCC rfl H9 rfl hB2 ag26 rfl hB3 ag26) ?_
  exact ⟨rfl, hN.gr⟩
set_option maxRecDepth 100000 in
set_option maxHeartbeats 400000 in
theorem signed_ret {A1 A2 : Option Addr} {c1 c2 : Nat} {x : Lk} {D : Option Addr} {cd : Nat} {d : List Int} {q : Int} {I : Im} {w : World} (hS : Sat I w) (hL : LkAt I x A1 c1 A2 c2) (hq : -1 ≤ q ∧ q ≤ 2000000000) (hD : Els (kInt .u8) I D d) (hdl : d.length ≤ 1048000) :
    Ret Try.prog 45 [.agg #[.int .u64 x.key, .slice A1 x.out.length c1, .int .i64 x.base, .slice A2 x.inn.length c2, .int .i64 x.rcv], .int .i64 q, .slice D d.length cd] w (PkPost I w (lsigned x q d)) := by
  refine ret_of (N := 26) Try.func45 rfl rfl rfl fun a0 H0 => ?_
  have hN := New.refl hS
  simp only [argsEnv, Nat.zero_add, Nat.reduceAdd] at H0
  refine wpIn_seq ?_
  refine w_reg ?_
  refine s_box H0 rfl rfl hN fun w1 b3 hN gw1 hB3 hgeb3 heb3 a1 H1 => ?_
  clear H0 a0
  replace hB3 : Box _ _ _ [_, _, _, _, _] 26 := hB3
  refine s_alloc H1 zv28 rfl hN fun w2 b6 hN gw2 hB6 hgeb6 heb6 a2 H2 => ?_
  clear H1 a1
  replace hB6 : Box _ _ _ [.int .i64 0, .int .i64 0, .slice none 0 0, .int .u64 0] 28 := hB6
  have hne_hB3_b6 := hB3.lt
  rw [← heb6] at hne_hB3_b6
  replace hB3 := hB3.gr gw2
  refine wl_end ?_
  refine th_n ?_
  refine wpIn_seq ?_
  refine w_reg ?_
  refine wl1 H2 (r_fld fld26_0 rfl) rfl rfl rfl rfl fun a3 H3 => ?_
  clear H2 a2
  refine wl1 H3 (r_load sc22 rfl (hB3.cell rfl)) rfl rfl rfl rfl fun a4 H4 => ?_
  clear H3 a3
  refine wl1 H4 (r_xor rfl rfl) rfl rfl rfl rfl fun a5 H5 => ?_
  clear H4 a4
  rw [show ibits .xor .u64 x.key 1 = key1 x.key from rfl] at H5
  refine wl1 H5 (r_move rfl) rfl rfl rfl rfl fun a6 H6 => ?_
  clear H5 a5
  refine wl1 H6 (r_move rfl) rfl rfl rfl rfl fun a7 H7 => ?_
  clear H6 a6
  refine wl1 H7 (r_fld fld26_4 rfl) rfl rfl rfl rfl fun a8 H8 => ?_
  clear H7 a7
  refine wl1 H8 (r_load sc3 rfl (hB3.cell rfl)) rfl rfl rfl rfl fun a9 H9 => ?_
  clear H8 a8
  refine wl1 H9 (r_move rfl) rfl rfl rfl rfl fun a10 H10 => ?_
  clear H9 a9
  refine wl1 H10 (r_len Try.underlying23 rfl) rfl rfl rfl rfl fun a11 H11 => ?_
  clear H10 a10
  refine s_lit1 (cs := [_, _, _]) H11 Try.underlying78 sz3 zv3 rfl rfl rfl (by simp [Value.oneCell']) rfl hN fun w3 l17 K3 hKl17 hlel17 hN nw3 hgel17 a12 H12 => ?_
  clear H11 a11
  replace hL := hL.up nw3.le
  replace hD := hD.up nw3.le
  replace hB3 := hB3.next nw3
  replace hB6 := hB6.next nw3
  have hE17 : Els (kInt .i64) K3 (some ⟨l17, 0, none⟩) [q, x.rcv, (d.length : Int)] := Els.nums hKl17 (by simp) (by have h1 := hL.kr; simp only [InK] at h1; simp only [List.mem_cons, List.mem_nil_iff, or_false, InK]; rintro y (rfl | rfl | rfl) <;> omega)
  refine wlc  H12 rfl rfl hb58 rfl (ttag hN.sat hD hE17 rfl (by simp; omega)) fun v w4 hR a13 H13 => ?_
  clear H12 a12
  obtain ⟨rfl, gw4⟩ := hR
  have hN := hN.ofGr gw4
  replace hB3 := hB3.gr gw4
  replace hB6 := hB6.gr gw4
  rw [show dtag (key1 x.key) ([q, x.rcv, (d.length : Int)] ++ d) = ptag (key1 x.key) ⟨q, x.rcv, d, 0⟩ from rfl] at H13
  refine wl1 H13 (r_assign rfl) rfl rfl rfl rfl fun a14 H14 => ?_
  clear H13 a13
  refine wl_end ?_
  refine th_n ?_
  refine wpIn_seq ?_
  have hS0 := hN.sat
  have hNsz2 := hN.gr.size
  refine w_drawE (m := 6) (l0 := [(1, _), (2, _), (3, _), (6, _), (7, _)]) hfol H14 ⟨rfl, rfl, rfl, rfl, rfl, trivial⟩ (by kernel_rfl) ?_
  refine ⟨_, false, (fun σ ι w1 hg hd hon => by
      exact OpOK.sub (r := [(1, _), (2, _), (3, _), (6, _), (7, _)]) ⟨rfl, rfl, rfl, rfl, rfl, trivial⟩ (by
        exact OpOK.eq (r_move rfl))
      ), (fun _ _ _ _ _ _ h => h), (FreeR.no _), ?_⟩
  refine ⟨_, false, (fun σ ι w1 hg hd hon => by
      exact OpOK.sub (r := [(1, _), (2, _), (3, _), (6, _), (7, _)]) ⟨rfl, rfl, rfl, rfl, rfl, trivial⟩ (by
        exact OpOK.eq (r_fld fld26_4 rfl))
      ), (fun _ _ _ _ _ _ h => h), (FreeR.no _), ?_⟩
  refine ⟨_, false, (fun σ ι w1 hg hd hon => by
      have hN := hN.ofGr ((Gr.refl _).drew.trans hg)
      have hB3 := hB3.gr ((Gr.refl _).drew.trans hg)
      have hB6 := hB6.gr ((Gr.refl _).drew.trans hg)
      have f1 := hd 1 (by decide) _ rfl
      have e1 : σ 1 = _ := f1.1 trivial
      exact OpOK.sub (r := [(20, _), (1, _), (2, _), (3, _), (6, _), (7, _)]) ⟨congrArg some e1, rfl, rfl, rfl, rfl, rfl, trivial⟩ (by
        exact OpOK.eq (r_load sc3 rfl (hB3.cell rfl)))
      ), (fun _ _ _ _ _ _ h => h), (FreeR.no _), ?_⟩
  refine ⟨_, false, (fun σ ι w1 hg hd hon => by
      exact OpOK.sub (r := [(1, _), (2, _), (3, _), (6, _), (7, _)]) ⟨rfl, rfl, rfl, rfl, rfl, trivial⟩ (by
        exact OpOK.eq (r_move rfl))
      ), (fun _ _ _ _ _ _ h => h), (FreeR.no _), ?_⟩
  refine ⟨_, true, (fun σ ι w1 hg hd hon => by
      have hN := hN.ofGr ((Gr.refl _).drew.trans hg)
      have hB3 := hB3.gr ((Gr.refl _).drew.trans hg)
      have hB6 := hB6.gr ((Gr.refl _).drew.trans hg)
      have f3 := hd 3 (by decide) _ rfl
      have e3 : σ 3 = _ := f3.1 trivial
      skip
      exact CallOK.sub (r := [(22, _), (1, _), (2, _), (3, _), (6, _), (7, _)]) ⟨congrArg some e3, rfl, rfl, rfl, rfl, rfl, trivial⟩ (by
        exact CallOK.M (Φ := CL d) (enters_of rfl rfl hb54) (cloneΦ hN.sat hD (by omega)))
      ), (by exact monoOwn (J := K3) (Φ := fun _ => CL d)), (fun _ _ _ _ _ _ h => h), ?_⟩
  refine ⟨_, false, (fun σ ι w1 hg hd hon => by
      exact OpOK.sub (r := [(1, _), (2, _), (3, _), (6, _), (7, _)]) ⟨rfl, rfl, rfl, rfl, rfl, trivial⟩ (by
        exact OpOK.eq (r_move rfl))
      ), (fun _ _ _ _ _ _ h => h), (FreeR.no _), ?_⟩
  intro σ ι a15 w6 hgw6 H15 hd hap
  skip
  have hN0 := hN
  have hN := hN.ofGr ((Gr.refl _).drew.trans hgw6)
  have hNd := (New.refl (hS0.drewS)).ofGr hgw6
  obtain ⟨K4, hP4, A4, c4, e4, hc4, hE4⟩ := (hd 4 (by decide) _ rfl).1 trivial
  replace hE4 := hE4.up (joinI_right hNd.sat hP4.sat)
  replace hNd := hNd.part hNd.le hP4 (hap.1 4 (by decide)).1
  replace hB3 := (hB3.gr (Gr.refl _).drew).next hNd
  replace hB6 := (hB6.gr (Gr.refl _).drew).next hNd
  replace hL := hL.up hNd.le
  replace hD := hD.up hNd.le
  have hN := hN0.drew.trans hNd
  have e0 : σ 0 = _ := (hd 0 (by decide) _ rfl).1 trivial
  have e2 : σ 2 = _ := (hd 2 (by decide) _ rfl).1 trivial
  have e5 : σ 5 = _ := (hd 5 (by decide) _ rfl).1 trivial
  replace H15 := H15.sub (r := [(19, _), (21, _), (23, _), (24, _), (1, _), (2, _), (3, _), (6, _), (7, _)]) ⟨congrArg some e0, congrArg some e2, congrArg some e4, congrArg some e5, rfl, rfl, rfl, rfl, rfl, trivial⟩
  clear hd
  clear hap
  refine wl1 H15 (r_build (v := .agg #[.int .i64 q, .int .i64 x.rcv, .slice A4 d.length c4, .int .u64 (ptag (key1 x.key) ⟨q, x.rcv, d, 0⟩)]) rfl (fun w => by kernel_rfl)) rfl rfl rfl rfl fun a16 H16 => ?_
  clear H15 a15
  refine s_storeA (vs := [_, _, _, _]) H16 sz28 (by simp) (by simp [Value.oneCell']) rfl rfl hN hB6 (by simp) hgeb6 fun w7 hN hB6 ew7 H17 => ?_
  clear H16
  replace hB3 := hB3.otherE ew7 (by omega)
  simp only [Nat.zero_add, Nat.add_zero, Nat.reduceAdd, Nat.reduceMul, List.set_cons_zero, List.set_cons_succ, spliceL] at hB6
  clear ew7
  refine wl_end ?_
  refine th_n ?_
  refine wpIn_ret ?_
  refine fin_r H17 (resC rfl H17 rfl hB6 ag28) ?_
  exact ⟨(joinI K3 K4), hN, A4, c4, rfl, ⟨by show InK .i64 q; simp only [InK]; omega, hL.kr, ptag_inK _ _, hc4, hE4⟩⟩
set_option maxRecDepth 100000 in
set_option maxHeartbeats 400000 in
theorem packet_ret {A1 A2 : Option Addr} {c1 c2 : Nat} {x : Lk} {i : Int} {I : Im} {w : World} (hS : Sat I w) (hL : LkAt I x A1 c1 A2 c2) (hv : LkV x) (hi0 : InK .i64 i) :
    Ret Try.prog 41 [.agg #[.int .u64 x.key, .slice A1 x.out.length c1, .int .i64 x.base, .slice A2 x.inn.length c2, .int .i64 x.rcv], .int .i64 i] w (PackPost I w (lpacket x i) (lpacketE x i)) := by
  refine ret_of (N := 27) Try.func41 rfl rfl rfl fun a0 H0 => ?_
  have hN := New.refl hS
  simp only [argsEnv, Nat.zero_add, Nat.reduceAdd] at H0
  refine wpIn_seq ?_
  refine w_reg ?_
  refine s_box H0 rfl rfl hN fun w1 b2 hN gw1 hB2 hgeb2 heb2 a1 H1 => ?_
  clear H0 a0
  replace hB2 : Box _ _ _ [_, _, _, _, _] 26 := hB2
  refine s_alloc H1 zv28 rfl hN fun w2 b4 hN gw2 hB4 hgeb4 heb4 a2 H2 => ?_
  clear H1 a1
  replace hB4 : Box _ _ _ [.int .i64 0, .int .i64 0, .slice none 0 0, .int .u64 0] 28 := hB4
  have hne_hB2_b4 := hB2.lt
  rw [← heb4] at hne_hB2_b4
  replace hB2 := hB2.gr gw2
  refine wl1 H2 (r_assign rfl) rfl rfl rfl rfl fun a3 H3 => ?_
  clear H2 a2
  refine wl_end ?_
  refine th_n ?_
  refine wpIn_seq ?_
  refine wpIn_seq ?_
  refine w_reg ?_
  refine wl1 H3 (r_move rfl) rfl rfl rfl rfl fun a4 H4 => ?_
  clear H3 a3
  refine wl1 H4 (r_lss rfl rfl) rfl rfl rfl rfl fun a5 H5 => ?_
  clear H4 a4
  refine wl1 H5 (r_move rfl) rfl rfl rfl rfl fun a6 H6 => ?_
  clear H5 a5
  refine wl_split (t := 8) H6 rfl (fun hg1_2 H7 => ?_) (fun hg1_2 H7 => ?_)
  ·
    clear H6
    try simp only [decide_eq_true_eq, decide_eq_false_iff_not, Bool.or_eq_true, Bool.and_eq_true, Bool.or_eq_false_iff, Bool.and_eq_false_iff, Bool.not_eq_true', Bool.not_eq_false', Int.not_lt, Int.not_le, ne_eq, Decidable.not_not] at hg1_2
    have hpe : packE x i := by unfold packE; omega
    
    refine wl_off (d := 8) H7 rfl rfl rfl rfl rfl rfl fun a7 H8 => ?_
    clear H7 a6
    refine wl_off (d := 8) H8 rfl rfl rfl rfl rfl rfl fun a8 H9 => ?_
    clear H8 a7
    refine wl_off (d := 8) H9 rfl rfl rfl rfl rfl rfl fun a9 H10 => ?_
    clear H9 a8
    refine wl_off (d := 8) H10 rfl rfl rfl rfl rfl rfl fun a10 H11 => ?_
    clear H10 a9
    refine wl_off (d := 8) H11 rfl rfl rfl rfl rfl rfl fun a11 H12 => ?_
    clear H11 a10
    refine wl1 H12 (r_pick_t rfl rfl) rfl rfl rfl rfl fun a12 H13 => ?_
    clear H12 a11
    refine wl_end ?_
    refine th_n ?_
    refine w_tt H13 rfl rfl ?_
    refine wpIn_seq ?_
    refine w_reg ?_
    refine wl1 H13 (r_build (v := .agg #[.int .i64 0, .int .i64 0, .slice none 0 0, .int .u64 0]) rfl (fun w => by kernel_rfl)) rfl rfl rfl rfl fun a13 H14 => ?_
    clear H13 a12
    refine s_storeA (vs := [_, _, _, _]) H14 sz28 (by simp) (by simp [Value.oneCell']) rfl rfl hN hB4 (by simp) hgeb4 fun w3 hN hB4 ew3 H15 => ?_
    clear H14
    replace hB2 := hB2.otherE ew3 (by omega)
    simp only [Nat.zero_add, Nat.add_zero, Nat.reduceAdd, Nat.reduceMul, List.set_cons_zero, List.set_cons_succ, spliceL] at hB4
    clear ew3
    refine wl1 H15 (r_assign rfl) rfl rfl rfl rfl fun a14 H16 => ?_
    clear H15 a13
    refine wl_end ?_
    refine th_n ?_
    refine wpIn_ret ?_
    refine th_r ?_
    refine fin_r H16 (resCT rfl H16 rfl hB4 ag28 rfl) ?_
    exact ⟨I, hN, none, 0, by rw [show lpacket x i = pk0 from if_pos hpe, show lpacketE x i = 4 from if_pos hpe]; rfl, by rw [show lpacket x i = pk0 from if_pos hpe]; exact pkAt0 _⟩
  ·
    clear H6
    try simp only [decide_eq_true_eq, decide_eq_false_iff_not, Bool.or_eq_true, Bool.and_eq_true, Bool.or_eq_false_iff, Bool.and_eq_false_iff, Bool.not_eq_true', Bool.not_eq_false', Int.not_lt, Int.not_le, ne_eq, Decidable.not_not] at hg1_2
    refine wl_on (d := 8) H7 rfl rfl rfl ?_
    refine wl1 H7 (r_move rfl) rfl rfl rfl rfl fun a7 H17 => ?_
    clear H7 a6
    refine wl_on (d := 8) H17 rfl rfl rfl ?_
    refine wl1 H17 (r_fld fld26_1 rfl) rfl rfl rfl rfl fun a8 H18 => ?_
    clear H17 a7
    refine wl_on (d := 8) H18 rfl rfl rfl ?_
    refine wl1 H18 (r_load sc24 rfl (hB2.cell rfl)) rfl rfl rfl rfl fun a9 H19 => ?_
    clear H18 a8
    refine wl_on (d := 8) H19 rfl rfl rfl ?_
    refine wl1 H19 (r_len Try.underlying24 rfl) rfl rfl rfl rfl fun a10 H20 => ?_
    clear H19 a9
    refine wl_on (d := 8) H20 rfl rfl rfl ?_
    refine wl1 H20 (r_geq rfl rfl) rfl rfl rfl rfl fun a11 H21 => ?_
    clear H20 a10
    refine wl1 H21 (r_pick_f rfl rfl) rfl rfl rfl rfl fun a12 H22 => ?_
    clear H21 a11
    refine wl_end ?_
    refine th_n ?_
    first | refine w_if H22 rfl (fun hc14 => ?_) (fun hc14 => ?_) | refine w_cond H22 rfl (fun hc14 => ?_) (fun hc14 => ?_)
    ·
      try simp only [decide_eq_true_eq, decide_eq_false_iff_not, Bool.or_eq_true, Bool.and_eq_true, Bool.or_eq_false_iff, Bool.and_eq_false_iff, Bool.not_eq_true', Bool.not_eq_false', Int.not_lt, Int.not_le, ne_eq, Decidable.not_not] at hc14
      have hpe : packE x i := by unfold packE; omega
      
      refine wpIn_seq ?_
      refine w_reg ?_
      refine wl1 H22 (r_build (v := .agg #[.int .i64 0, .int .i64 0, .slice none 0 0, .int .u64 0]) rfl (fun w => by kernel_rfl)) rfl rfl rfl rfl fun a13 H23 => ?_
      clear H22 a12
      refine s_storeA (vs := [_, _, _, _]) H23 sz28 (by simp) (by simp [Value.oneCell']) rfl rfl hN hB4 (by simp) hgeb4 fun w4 hN hB4 ew4 H24 => ?_
      clear H23
      replace hB2 := hB2.otherE ew4 (by omega)
      simp only [Nat.zero_add, Nat.add_zero, Nat.reduceAdd, Nat.reduceMul, List.set_cons_zero, List.set_cons_succ, spliceL] at hB4
      clear ew4
      refine wl1 H24 (r_assign rfl) rfl rfl rfl rfl fun a14 H25 => ?_
      clear H24 a13
      refine wl_end ?_
      refine th_n ?_
      refine wpIn_ret ?_
      refine th_r ?_
      refine fin_r H25 (resCT rfl H25 rfl hB4 ag28 rfl) ?_
      exact ⟨I, hN, none, 0, by rw [show lpacket x i = pk0 from if_pos hpe, show lpacketE x i = 4 from if_pos hpe]; rfl, by rw [show lpacket x i = pk0 from if_pos hpe]; exact pkAt0 _⟩
    ·
      try simp only [decide_eq_true_eq, decide_eq_false_iff_not, Bool.or_eq_true, Bool.and_eq_true, Bool.or_eq_false_iff, Bool.and_eq_false_iff, Bool.not_eq_true', Bool.not_eq_false', Int.not_lt, Int.not_le, ne_eq, Decidable.not_not] at hc14
      have hpe : ¬ packE x i := by unfold packE; omega
      obtain ⟨k, rfl⟩ : ∃ k : Nat, i = (k : Int) := ⟨i.toNat, by unfold packE at hpe; omega⟩
      have hko : k < x.out.length := by unfold packE at hpe; omega
      have hv1 := hv.b0
      have hv2 := hv.b1
      have hv3 := hv.o
      obtain ⟨bO, oO, hA1⟩ := hL.oe.form (by omega)
      subst hA1
      obtain ⟨AA, cA, hcA, hlA, hEA⟩ := hL.oe.rowAt hko
      have hsd := hv.so _ (List.getElem_mem hko)
      refine wpIn_skip ?_
      refine th_n ?_
      refine wpIn_seq ?_
      have hS0 := hN.sat
      have hNsz3 := hN.gr.size
      refine w_drawE (m := 10) (l0 := [(1, _), (2, _), (4, _), (5, _)]) hfol H22 ⟨rfl, rfl, rfl, rfl, trivial⟩ (by kernel_rfl) ?_
      refine ⟨_, false, (fun σ ι w1 hg hd hon => by
          have hN := hN.ofGr ((Gr.refl _).drew.trans hg)
          have hB2 := hB2.gr ((Gr.refl _).drew.trans hg)
          have hB4 := hB4.gr ((Gr.refl _).drew.trans hg)
          exact OpOK.sub (r := [(1, _), (2, _), (4, _), (5, _)]) ⟨rfl, rfl, rfl, rfl, trivial⟩ (by
            exact OpOK.eq (r_loadA (cs := [_, _, _, _, _]) ag26 rfl hB2.agg))
          ), (fun _ _ _ _ _ _ h => h), (FreeR.no _), ?_⟩
      refine ⟨_, false, (fun σ ι w1 hg hd hon => by
          exact OpOK.sub (r := [(1, _), (2, _), (4, _), (5, _)]) ⟨rfl, rfl, rfl, rfl, trivial⟩ (by
            exact OpOK.eq (r_fld fld26_2 rfl))
          ), (fun _ _ _ _ _ _ h => h), (FreeR.no _), ?_⟩
      refine ⟨_, false, (fun σ ι w1 hg hd hon => by
          have hN := hN.ofGr ((Gr.refl _).drew.trans hg)
          have hB2 := hB2.gr ((Gr.refl _).drew.trans hg)
          have hB4 := hB4.gr ((Gr.refl _).drew.trans hg)
          have f1 := hd 1 (by decide) _ rfl
          have e1 : σ 1 = _ := f1.1 trivial
          exact OpOK.sub (r := [(17, _), (1, _), (2, _), (4, _), (5, _)]) ⟨congrArg some e1, rfl, rfl, rfl, rfl, trivial⟩ (by
            exact OpOK.eq (r_load sc3 rfl (hB2.cell rfl)))
          ), (fun _ _ _ _ _ _ h => h), (FreeR.no _), ?_⟩
      refine ⟨_, false, (fun σ ι w1 hg hd hon => by
          exact OpOK.sub (r := [(1, _), (2, _), (4, _), (5, _)]) ⟨rfl, rfl, rfl, rfl, trivial⟩ (by
            exact OpOK.eq (r_move rfl))
          ), (fun _ _ _ _ _ _ h => h), (FreeR.no _), ?_⟩
      refine ⟨_, false, (fun σ ι w1 hg hd hon => by
          have f2 := hd 2 (by decide) _ rfl
          have f3 := hd 3 (by decide) _ rfl
          have e2 : σ 2 = _ := f2.1 trivial
          have e3 : σ 3 = _ := f3.1 trivial
          exact OpOK.sub (r := [(18, _), (19, _), (1, _), (2, _), (4, _), (5, _)]) ⟨congrArg some e2, congrArg some e3, rfl, rfl, rfl, rfl, trivial⟩ (by
            first | exact OpOK.eq (r_addk rfl rfl (by simp only [InK]; omega)) | exact OpOK.eq (r_add rfl rfl))
          ), (fun _ _ _ _ _ _ h => h), (FreeR.no _), ?_⟩
      refine ⟨_, false, (fun σ ι w1 hg hd hon => by
          exact OpOK.sub (r := [(1, _), (2, _), (4, _), (5, _)]) ⟨rfl, rfl, rfl, rfl, trivial⟩ (by
            exact OpOK.eq (r_fld fld26_1 rfl))
          ), (fun _ _ _ _ _ _ h => h), (FreeR.no _), ?_⟩
      refine ⟨_, false, (fun σ ι w1 hg hd hon => by
          have hN := hN.ofGr ((Gr.refl _).drew.trans hg)
          have hB2 := hB2.gr ((Gr.refl _).drew.trans hg)
          have hB4 := hB4.gr ((Gr.refl _).drew.trans hg)
          have f5 := hd 5 (by decide) _ rfl
          have e5 : σ 5 = _ := f5.1 trivial
          exact OpOK.sub (r := [(21, _), (1, _), (2, _), (4, _), (5, _)]) ⟨congrArg some e5, rfl, rfl, rfl, rfl, trivial⟩ (by
            exact OpOK.eq (r_load sc24 rfl (hB2.cell rfl)))
          ), (fun _ _ _ _ _ _ h => h), (FreeR.no _), ?_⟩
      refine ⟨_, false, (fun σ ι w1 hg hd hon => by
          exact OpOK.sub (r := [(1, _), (2, _), (4, _), (5, _)]) ⟨rfl, rfl, rfl, rfl, trivial⟩ (by
            exact OpOK.eq (r_move rfl))
          ), (fun _ _ _ _ _ _ h => h), (FreeR.no _), ?_⟩
      refine ⟨_, false, (fun σ ι w1 hg hd hon => by
          have f6 := hd 6 (by decide) _ rfl
          have f7 := hd 7 (by decide) _ rfl
          have e6 : σ 6 = _ := f6.1 trivial
          have e7 : σ 7 = _ := f7.1 trivial
          exact OpOK.sub (r := [(22, _), (23, _), (1, _), (2, _), (4, _), (5, _)]) ⟨congrArg some e6, congrArg some e7, rfl, rfl, rfl, rfl, trivial⟩ (by
            exact OpOK.eq (r_idx Try.underlying24 sz23 rfl rfl (i := k) rfl (by omega)))
          ), (fun _ _ _ _ _ _ h => h), (FreeR.no _), ?_⟩
      refine ⟨_, false, (fun σ ι w1 hg hd hon => by
          have hN := hN.ofGr ((Gr.refl _).drew.trans hg)
          have hB2 := hB2.gr ((Gr.refl _).drew.trans hg)
          have hB4 := hB4.gr ((Gr.refl _).drew.trans hg)
          have f8 := hd 8 (by decide) _ rfl
          have e8 : σ 8 = _ := f8.1 trivial
          exact OpOK.sub (r := [(24, _), (1, _), (2, _), (4, _), (5, _)]) ⟨congrArg some e8, rfl, rfl, rfl, rfl, trivial⟩ (by
            exact OpOK.eq (r_load sc23 rfl (hN.sat.cell hcA)))
          ), (fun _ _ _ _ _ _ h => h), (FreeR.no _), ?_⟩
      intro σ ι a13 w6 hgw6 H26 hd hap
      skip
      have hN0 := hN
      have hN := hN.ofGr ((Gr.refl _).drew.trans hgw6)
      replace hB2 := hB2.gr ((Gr.refl _).drew.trans hgw6)
      replace hB4 := hB4.gr ((Gr.refl _).drew.trans hgw6)
      have e0 : σ 0 = _ := (hd 0 (by decide) _ rfl).1 trivial
      have e4 : σ 4 = _ := (hd 4 (by decide) _ rfl).1 trivial
      have e9 : σ 9 = _ := (hd 9 (by decide) _ rfl).1 trivial
      replace H26 := H26.sub (r := [(16, _), (20, _), (25, _), (1, _), (2, _), (4, _), (5, _)]) ⟨congrArg some e0, congrArg some e4, congrArg some e9, rfl, rfl, rfl, rfl, trivial⟩
      clear hd
      clear hap
      refine wlc  H26 rfl rfl hb45 rfl (signed_ret (q := x.base + (k : Int)) (d := x.out[k]) hN.sat hL (by omega) hEA (by omega)) fun v w7 hR a14 H27 => ?_
      clear H26 a13
      obtain ⟨J7, nw7, ⟨A3, c3, rfl, hP3⟩⟩ := hR
      replace hL := hL.up nw7.le
      replace hB2 := hB2.next nw7
      replace hB4 := hB4.next nw7
      have hN := hN.trans nw7
      refine s_storeA (vs := [_, _, _, _]) H27 sz28 (by simp) (by simp [Value.oneCell']) rfl rfl hN hB4 (by simp) hgeb4 fun w8 hN hB4 ew8 H28 => ?_
      clear H27
      replace hB2 := hB2.otherE ew8 (by omega)
      simp only [Nat.zero_add, Nat.add_zero, Nat.reduceAdd, Nat.reduceMul, List.set_cons_zero, List.set_cons_succ, spliceL] at hB4
      clear ew8
      refine wl1 H28 (r_assign rfl) rfl rfl rfl rfl fun a15 H29 => ?_
      clear H28 a14
      refine wl_end ?_
      refine th_n ?_
      refine wpIn_ret ?_
      refine fin_r H29 (resCT rfl H29 rfl hB4 ag28 rfl) ?_
      exact ⟨J7, hN, A3, c3, by rw [show lpacketE x (k : Int) = 0 from if_neg hpe, show lpacket x (k : Int) = lsigned x (x.base + (k : Int)) x.out[k] from by unfold lpacket; rw [if_neg hpe]; simp [hko]], by rw [show lpacket x (k : Int) = lsigned x (x.base + (k : Int)) x.out[k] from by unfold lpacket; rw [if_neg hpe]; simp [hko]]; exact hP3⟩
set_option maxRecDepth 100000 in
set_option maxHeartbeats 400000 in
theorem ack_ret {A1 A2 : Option Addr} {c1 c2 : Nat} {x : Lk} {I : Im} {w : World} (hS : Sat I w) (hL : LkAt I x A1 c1 A2 c2) :
    Ret Try.prog 29 [.agg #[.int .u64 x.key, .slice A1 x.out.length c1, .int .i64 x.base, .slice A2 x.inn.length c2, .int .i64 x.rcv]] w (PkPost I w (lsigned x (-1) [])) := by
  refine ret_of (N := 5) Try.func29 rfl rfl rfl fun a0 H0 => ?_
  have hN := New.refl hS
  simp only [argsEnv, Nat.zero_add, Nat.reduceAdd] at H0
  refine wpIn_seq ?_
  refine w_reg ?_
  refine s_box H0 rfl rfl hN fun w1 b1 hN gw1 hB1 hgeb1 heb1 a1 H1 => ?_
  clear H0 a0
  replace hB1 : Box _ _ _ [_, _, _, _, _] 26 := hB1
  refine s_alloc H1 zv28 rfl hN fun w2 b2 hN gw2 hB2 hgeb2 heb2 a2 H2 => ?_
  clear H1 a1
  replace hB2 : Box _ _ _ [.int .i64 0, .int .i64 0, .slice none 0 0, .int .u64 0] 28 := hB2
  have hne_hB1_b2 := hB1.lt
  rw [← heb2] at hne_hB1_b2
  replace hB1 := hB1.gr gw2
  refine wl_end ?_
  refine th_n ?_
  refine wpIn_seq ?_
  refine w_reg ?_
  refine wl1 H2 (r_loadA (cs := [_, _, _, _, _]) ag26 rfl hB1.agg) rfl rfl rfl rfl fun a3 H3 => ?_
  clear H2 a2
  refine wlc  H3 rfl rfl hb45 rfl (signed_ret (q := -1) (d := []) hN.sat hL (by omega) (Els.nil _ _ none) (by simp)) fun v w3 hR a4 H4 => ?_
  clear H3 a3
  obtain ⟨J3, nw3, ⟨A3, c3, rfl, hP3⟩⟩ := hR
  replace hL := hL.up nw3.le
  replace hB1 := hB1.next nw3
  replace hB2 := hB2.next nw3
  have hN := hN.trans nw3
  refine s_storeA (vs := [_, _, _, _]) H4 sz28 (by simp) (by simp [Value.oneCell']) rfl rfl hN hB2 (by simp) hgeb2 fun w4 hN hB2 ew4 H5 => ?_
  clear H4
  replace hB1 := hB1.otherE ew4 (by omega)
  simp only [Nat.zero_add, Nat.add_zero, Nat.reduceAdd, Nat.reduceMul, List.set_cons_zero, List.set_cons_succ, spliceL] at hB2
  clear ew4
  refine wl_end ?_
  refine th_n ?_
  refine wpIn_ret ?_
  refine fin_r H5 (resC rfl H5 rfl hB2 ag28) ?_
  exact ⟨J3, hN, A3, c3, rfl, hP3⟩
set_option maxRecDepth 100000 in
set_option maxHeartbeats 400000 in
theorem rpacket_ret {A1 A2 : Option Addr} {c1 c2 : Nat} {x : Lk} {i : Int} {I : Im} {w : World} (hS : Sat I w) (hL : LkAt I x A1 c1 A2 c2) (hv : LkV x) (hi0 : InK .i64 i) :
    Ret Try.prog 21 [.agg #[.int .u64 x.key, .slice A1 x.out.length c1, .int .i64 x.base, .slice A2 x.inn.length c2, .int .i64 x.rcv], .int .i64 i] w (PackedPost I w (lpacket x i) (lpacketE x i)) := by
  refine ret_of (N := 36) Try.func21 rfl rfl rfl fun a0 H0 => ?_
  have hN := New.refl hS
  simp only [argsEnv, Nat.zero_add, Nat.reduceAdd] at H0
  refine wpIn_seq ?_
  refine w_reg ?_
  refine s_box H0 rfl rfl hN fun w1 b2 hN gw1 hB2 hgeb2 heb2 a1 H1 => ?_
  clear H0 a0
  replace hB2 : Box _ _ _ [_, _, _, _, _] 26 := hB2
  refine s_alloc H1 zv44 rfl hN fun w2 b4 hN gw2 hB4 hgeb4 heb4 a2 H2 => ?_
  clear H1 a1
  replace hB4 : Box _ _ _ [.int .i64 0, .int .i64 0, .slice none 0 0, .int .u64 0, .int .i64 0] 44 := hB4
  have hne_hB2_b4 := hB2.lt
  rw [← heb4] at hne_hB2_b4
  replace hB2 := hB2.gr gw2
  refine wl_end ?_
  refine th_n ?_
  refine wpIn_seq ?_
  refine wpIn_seq ?_
  refine w_reg ?_
  refine wl1 H2 (r_move rfl) rfl rfl rfl rfl fun a3 H3 => ?_
  clear H2 a2
  refine wl1 H3 (r_lss rfl rfl) rfl rfl rfl rfl fun a4 H4 => ?_
  clear H3 a3
  refine wl1 H4 (r_move rfl) rfl rfl rfl rfl fun a5 H5 => ?_
  clear H4 a4
  refine wl_split (t := 8) H5 rfl (fun hg1_2 H6 => ?_) (fun hg1_2 H6 => ?_)
  ·
    clear H5
    try simp only [decide_eq_true_eq, decide_eq_false_iff_not, Bool.or_eq_true, Bool.and_eq_true, Bool.or_eq_false_iff, Bool.and_eq_false_iff, Bool.not_eq_true', Bool.not_eq_false', Int.not_lt, Int.not_le, ne_eq, Decidable.not_not] at hg1_2
    have hpe : packE x i := by unfold packE; omega
    
    refine wl_off (d := 8) H6 rfl rfl rfl rfl rfl rfl fun a6 H7 => ?_
    clear H6 a5
    refine wl_off (d := 8) H7 rfl rfl rfl rfl rfl rfl fun a7 H8 => ?_
    clear H7 a6
    refine wl_off (d := 8) H8 rfl rfl rfl rfl rfl rfl fun a8 H9 => ?_
    clear H8 a7
    refine wl_off (d := 8) H9 rfl rfl rfl rfl rfl rfl fun a9 H10 => ?_
    clear H9 a8
    refine wl_off (d := 8) H10 rfl rfl rfl rfl rfl rfl fun a10 H11 => ?_
    clear H10 a9
    refine wl1 H11 (r_pick_t rfl rfl) rfl rfl rfl rfl fun a11 H12 => ?_
    clear H11 a10
    refine wl_end ?_
    refine th_n ?_
    refine w_tt H12 rfl rfl ?_
    refine wpIn_seq ?_
    refine w_reg ?_
    refine wl1 H12 (r_build (v := .agg #[.int .i64 0, .int .i64 0, .slice none 0 0, .int .u64 0, .int .i64 4]) rfl (fun w => by kernel_rfl)) rfl rfl rfl rfl fun a12 H13 => ?_
    clear H12 a11
    refine s_storeA (vs := [_, _, _, _, _]) H13 sz44 (by simp) (by simp [Value.oneCell']) rfl rfl hN hB4 (by simp) hgeb4 fun w3 hN hB4 ew3 H14 => ?_
    clear H13
    replace hB2 := hB2.otherE ew3 (by omega)
    simp only [Nat.zero_add, Nat.add_zero, Nat.reduceAdd, Nat.reduceMul, List.set_cons_zero, List.set_cons_succ, spliceL] at hB4
    clear ew3
    refine wl_end ?_
    refine th_n ?_
    refine wpIn_ret ?_
    refine th_r ?_
    refine fin_r H14 (resC rfl H14 rfl hB4 ag44) ?_
    exact ⟨I, hN, none, 0, by rw [show lpacket x i = pk0 from if_pos hpe, show lpacketE x i = 4 from if_pos hpe]; rfl, by rw [show lpacket x i = pk0 from if_pos hpe]; exact pkAt0 _⟩
  ·
    clear H5
    try simp only [decide_eq_true_eq, decide_eq_false_iff_not, Bool.or_eq_true, Bool.and_eq_true, Bool.or_eq_false_iff, Bool.and_eq_false_iff, Bool.not_eq_true', Bool.not_eq_false', Int.not_lt, Int.not_le, ne_eq, Decidable.not_not] at hg1_2
    refine wl_on (d := 8) H6 rfl rfl rfl ?_
    refine wl1 H6 (r_move rfl) rfl rfl rfl rfl fun a6 H15 => ?_
    clear H6 a5
    refine wl_on (d := 8) H15 rfl rfl rfl ?_
    refine wl1 H15 (r_fld fld26_1 rfl) rfl rfl rfl rfl fun a7 H16 => ?_
    clear H15 a6
    refine wl_on (d := 8) H16 rfl rfl rfl ?_
    refine wl1 H16 (r_load sc24 rfl (hB2.cell rfl)) rfl rfl rfl rfl fun a8 H17 => ?_
    clear H16 a7
    refine wl_on (d := 8) H17 rfl rfl rfl ?_
    refine wl1 H17 (r_len Try.underlying24 rfl) rfl rfl rfl rfl fun a9 H18 => ?_
    clear H17 a8
    refine wl_on (d := 8) H18 rfl rfl rfl ?_
    refine wl1 H18 (r_geq rfl rfl) rfl rfl rfl rfl fun a10 H19 => ?_
    clear H18 a9
    refine wl1 H19 (r_pick_f rfl rfl) rfl rfl rfl rfl fun a11 H20 => ?_
    clear H19 a10
    refine wl_end ?_
    refine th_n ?_
    first | refine w_if H20 rfl (fun hc14 => ?_) (fun hc14 => ?_) | refine w_cond H20 rfl (fun hc14 => ?_) (fun hc14 => ?_)
    ·
      try simp only [decide_eq_true_eq, decide_eq_false_iff_not, Bool.or_eq_true, Bool.and_eq_true, Bool.or_eq_false_iff, Bool.and_eq_false_iff, Bool.not_eq_true', Bool.not_eq_false', Int.not_lt, Int.not_le, ne_eq, Decidable.not_not] at hc14
      have hpe : packE x i := by unfold packE; omega
      
      refine wpIn_seq ?_
      refine w_reg ?_
      refine wl1 H20 (r_build (v := .agg #[.int .i64 0, .int .i64 0, .slice none 0 0, .int .u64 0, .int .i64 4]) rfl (fun w => by kernel_rfl)) rfl rfl rfl rfl fun a12 H21 => ?_
      clear H20 a11
      refine s_storeA (vs := [_, _, _, _, _]) H21 sz44 (by simp) (by simp [Value.oneCell']) rfl rfl hN hB4 (by simp) hgeb4 fun w4 hN hB4 ew4 H22 => ?_
      clear H21
      replace hB2 := hB2.otherE ew4 (by omega)
      simp only [Nat.zero_add, Nat.add_zero, Nat.reduceAdd, Nat.reduceMul, List.set_cons_zero, List.set_cons_succ, spliceL] at hB4
      clear ew4
      refine wl_end ?_
      refine th_n ?_
      refine wpIn_ret ?_
      refine th_r ?_
      refine fin_r H22 (resC rfl H22 rfl hB4 ag44) ?_
      exact ⟨I, hN, none, 0, by rw [show lpacket x i = pk0 from if_pos hpe, show lpacketE x i = 4 from if_pos hpe]; rfl, by rw [show lpacket x i = pk0 from if_pos hpe]; exact pkAt0 _⟩
    ·
      try simp only [decide_eq_true_eq, decide_eq_false_iff_not, Bool.or_eq_true, Bool.and_eq_true, Bool.or_eq_false_iff, Bool.and_eq_false_iff, Bool.not_eq_true', Bool.not_eq_false', Int.not_lt, Int.not_le, ne_eq, Decidable.not_not] at hc14
      have hpe : ¬ packE x i := by unfold packE; omega
      obtain ⟨k, rfl⟩ : ∃ k : Nat, i = (k : Int) := ⟨i.toNat, by unfold packE at hpe; omega⟩
      have hko : k < x.out.length := by unfold packE at hpe; omega
      have hv1 := hv.b0
      have hv2 := hv.b1
      have hv3 := hv.o
      obtain ⟨bO, oO, hA1⟩ := hL.oe.form (by omega)
      subst hA1
      obtain ⟨AA, cA, hcA, hlA, hEA⟩ := hL.oe.rowAt hko
      have hsd := hv.so _ (List.getElem_mem hko)
      refine wpIn_skip ?_
      refine th_n ?_
      refine wpIn_seq ?_
      have hS0 := hN.sat
      have hNsz3 := hN.gr.size
      have hlt_hB2_3 := hB2.lt
      have hlt_hB4_3 := hB4.lt
      refine w_drawE (m := 13) (l0 := [(1, _), (2, _), (4, _)]) hfol H20 ⟨rfl, rfl, rfl, trivial⟩ (by kernel_rfl) ?_
      refine ⟨_, false, (fun σ ι w1 hg hd hon => by
          exact OpOK.sub (r := [(1, _), (2, _), (4, _)]) ⟨rfl, rfl, rfl, trivial⟩ (by
            exact OpOK.eq (r_fld fld26_2 rfl))
          ), (fun _ _ _ _ _ _ h => h), (FreeR.no _), ?_⟩
      refine ⟨_, false, (fun σ ι w1 hg hd hon => by
          have hN := hN.ofGr ((Gr.refl _).drew.trans hg)
          have hB2 := hB2.gr ((Gr.refl _).drew.trans hg)
          have hB4 := hB4.gr ((Gr.refl _).drew.trans hg)
          have f0 := hd 0 (by decide) _ rfl
          have e0 : σ 0 = _ := f0.1 trivial
          exact OpOK.sub (r := [(16, _), (1, _), (2, _), (4, _)]) ⟨congrArg some e0, rfl, rfl, rfl, trivial⟩ (by
            exact OpOK.eq (r_load sc3 rfl (hB2.cell rfl)))
          ), (fun _ _ _ _ _ _ h => h), (FreeR.no _), ?_⟩
      refine ⟨_, false, (fun σ ι w1 hg hd hon => by
          exact OpOK.sub (r := [(1, _), (2, _), (4, _)]) ⟨rfl, rfl, rfl, trivial⟩ (by
            exact OpOK.eq (r_move rfl))
          ), (fun _ _ _ _ _ _ h => h), (FreeR.no _), ?_⟩
      refine ⟨_, false, (fun σ ι w1 hg hd hon => by
          have f1 := hd 1 (by decide) _ rfl
          have f2 := hd 2 (by decide) _ rfl
          have e1 : σ 1 = _ := f1.1 trivial
          have e2 : σ 2 = _ := f2.1 trivial
          exact OpOK.sub (r := [(17, _), (18, _), (1, _), (2, _), (4, _)]) ⟨congrArg some e1, congrArg some e2, rfl, rfl, rfl, trivial⟩ (by
            first | exact OpOK.eq (r_addk rfl rfl (by simp only [InK]; omega)) | exact OpOK.eq (r_add rfl rfl))
          ), (fun _ _ _ _ _ _ h => h), (FreeR.no _), ?_⟩
      refine ⟨_, false, (fun σ ι w1 hg hd hon => by
          exact OpOK.sub (r := [(1, _), (2, _), (4, _)]) ⟨rfl, rfl, rfl, trivial⟩ (by
            exact OpOK.eq (r_fld fld26_4 rfl))
          ), (fun _ _ _ _ _ _ h => h), (FreeR.no _), ?_⟩
      refine ⟨_, false, (fun σ ι w1 hg hd hon => by
          have hN := hN.ofGr ((Gr.refl _).drew.trans hg)
          have hB2 := hB2.gr ((Gr.refl _).drew.trans hg)
          have hB4 := hB4.gr ((Gr.refl _).drew.trans hg)
          have f4 := hd 4 (by decide) _ rfl
          have e4 : σ 4 = _ := f4.1 trivial
          exact OpOK.sub (r := [(20, _), (1, _), (2, _), (4, _)]) ⟨congrArg some e4, rfl, rfl, rfl, trivial⟩ (by
            exact OpOK.eq (r_load sc3 rfl (hB2.cell rfl)))
          ), (fun _ _ _ _ _ _ h => h), (FreeR.no _), ?_⟩
      refine ⟨_, false, (fun σ ι w1 hg hd hon => by
          exact OpOK.sub (r := [(1, _), (2, _), (4, _)]) ⟨rfl, rfl, rfl, trivial⟩ (by
            exact OpOK.eq (r_fld fld26_1 rfl))
          ), (fun _ _ _ _ _ _ h => h), (FreeR.no _), ?_⟩
      refine ⟨_, false, (fun σ ι w1 hg hd hon => by
          have hN := hN.ofGr ((Gr.refl _).drew.trans hg)
          have hB2 := hB2.gr ((Gr.refl _).drew.trans hg)
          have hB4 := hB4.gr ((Gr.refl _).drew.trans hg)
          have f6 := hd 6 (by decide) _ rfl
          have e6 : σ 6 = _ := f6.1 trivial
          exact OpOK.sub (r := [(22, _), (1, _), (2, _), (4, _)]) ⟨congrArg some e6, rfl, rfl, rfl, trivial⟩ (by
            exact OpOK.eq (r_load sc24 rfl (hB2.cell rfl)))
          ), (fun _ _ _ _ _ _ h => h), (FreeR.no _), ?_⟩
      refine ⟨_, false, (fun σ ι w1 hg hd hon => by
          exact OpOK.sub (r := [(1, _), (2, _), (4, _)]) ⟨rfl, rfl, rfl, trivial⟩ (by
            exact OpOK.eq (r_move rfl))
          ), (fun _ _ _ _ _ _ h => h), (FreeR.no _), ?_⟩
      refine ⟨_, false, (fun σ ι w1 hg hd hon => by
          have f7 := hd 7 (by decide) _ rfl
          have f8 := hd 8 (by decide) _ rfl
          have e7 : σ 7 = _ := f7.1 trivial
          have e8 : σ 8 = _ := f8.1 trivial
          exact OpOK.sub (r := [(23, _), (24, _), (1, _), (2, _), (4, _)]) ⟨congrArg some e7, congrArg some e8, rfl, rfl, rfl, trivial⟩ (by
            exact OpOK.eq (r_idx Try.underlying24 sz23 rfl rfl (i := k) rfl (by omega)))
          ), (fun _ _ _ _ _ _ h => h), (FreeR.no _), ?_⟩
      refine ⟨_, false, (fun σ ι w1 hg hd hon => by
          have hN := hN.ofGr ((Gr.refl _).drew.trans hg)
          have hB2 := hB2.gr ((Gr.refl _).drew.trans hg)
          have hB4 := hB4.gr ((Gr.refl _).drew.trans hg)
          have f9 := hd 9 (by decide) _ rfl
          have e9 : σ 9 = _ := f9.1 trivial
          exact OpOK.sub (r := [(25, _), (1, _), (2, _), (4, _)]) ⟨congrArg some e9, rfl, rfl, rfl, trivial⟩ (by
            exact OpOK.eq (r_load sc23 rfl (hN.sat.cell hcA)))
          ), (fun _ _ _ _ _ _ h => h), (FreeR.no _), ?_⟩
      refine ⟨_, false, (fun σ ι w1 hg hd hon => by
          have f3 := hd 3 (by decide) _ rfl
          have f5 := hd 5 (by decide) _ rfl
          have f10 := hd 10 (by decide) _ rfl
          have e3 : σ 3 = _ := f3.1 trivial
          have e5 : σ 5 = _ := f5.1 trivial
          have e10 : σ 10 = _ := f10.1 trivial
          exact OpOK.sub (r := [(19, _), (21, _), (26, _), (1, _), (2, _), (4, _)]) ⟨congrArg some e3, congrArg some e5, congrArg some e10, rfl, rfl, rfl, trivial⟩ (by
            exact OpOK.eq (r_build (v := .agg #[.int .i64 (x.base + (k : Int)), .int .i64 x.rcv, .slice AA x.out[k].length cA, .int .u64 0]) rfl (fun w => by kernel_rfl)))
          ), (fun _ _ _ _ _ _ h => h), (FreeR.no _), ?_⟩
      refine ⟨_, false, (fun σ ι w1 hg hd hon => by
          exact OpOK.sub (r := [(1, _), (2, _), (4, _)]) ⟨rfl, rfl, rfl, trivial⟩ (by exact OpOK.alloc (cs := [.int .i64 0, .int .i64 0, .slice none 0 0, .int .u64 0]) zv28 rfl)
          ), (by intro σ v q w w' hg h; obtain ⟨h1, h2, h3⟩ := h; exact ⟨h1, h2, h3.gr hg⟩), (FreeR.no _), ?_⟩
      intro σ ι a12 w6 hgw6 H23 hd hap
      skip
      have hN0 := hN
      have hN := hN.ofGr ((Gr.refl _).drew.trans hgw6)
      replace hB2 := hB2.gr ((Gr.refl _).drew.trans hgw6)
      replace hB4 := hB4.gr ((Gr.refl _).drew.trans hgw6)
      have e11 : σ 11 = _ := (hd 11 (by decide) _ rfl).1 trivial
      obtain ⟨e12, hlqb5, hblb5⟩ := (hd 12 (by decide) _ rfl).1 trivial
      have hg0b5 := (hap.1 12 (by decide)).1
      have hJ0b5 := hS0.fresh hg0b5
      have hB5 : Box I w6 _ ([.int .i64 0, .int .i64 0, .slice none 0 0, .int .u64 0]) 28 := ⟨hblb5, hJ0b5⟩
      replace H23 := H23.sub (r := [(27, _), (5, _), (1, _), (2, _), (4, _)]) ⟨congrArg some e11, congrArg some e12, rfl, rfl, rfl, trivial⟩
      clear hd
      have hgeb5 := Nat.le_trans hNsz3 hg0b5
      clear hlqb5 hblb5 hJ0b5
      have hne_hB2_b5 := Nat.lt_of_lt_of_le hlt_hB2_3 hg0b5
      have hne_hB4_b5 := Nat.lt_of_lt_of_le hlt_hB4_3 hg0b5
      generalize (ι 12).1 = b5 at *
      clear hap
      refine s_storeA (vs := [_, _, _, _]) H23 sz28 (by simp) (by simp [Value.oneCell']) rfl rfl hN hB5 (by simp) hgeb5 fun w7 hN hB5 ew7 H24 => ?_
      clear H23
      replace hB2 := hB2.otherE ew7 (by omega)
      replace hB4 := hB4.otherE ew7 (by omega)
      simp only [Nat.zero_add, Nat.add_zero, Nat.reduceAdd, Nat.reduceMul, List.set_cons_zero, List.set_cons_succ, spliceL] at hB5
      clear ew7
      refine wl_end ?_
      refine th_n ?_
      refine wpIn_seq ?_
      refine w_reg ?_
      refine wl1 H24 (r_fld fld26_0 rfl) rfl rfl rfl rfl fun a13 H25 => ?_
      clear H24 a12
      refine wl1 H25 (r_load sc22 rfl (hB2.cell rfl)) rfl rfl rfl rfl fun a14 H26 => ?_
      clear H25 a13
      refine wl1 H26 (r_xor rfl rfl) rfl rfl rfl rfl fun a15 H27 => ?_
      clear H26 a14
      rw [show ibits .xor .u64 x.key 1 = key1 x.key from rfl] at H27
      have hP3 : PkAt I ⟨x.base + (k : Int), x.rcv, x.out[k], 0⟩ AA cA := ⟨by show InK .i64 (x.base + (k : Int)); simp only [InK]; omega, hL.kr, by show InK .u64 0; simp [InK], hlA, hEA⟩
      refine wl1 H27 (r_loadA (cs := [_, _, _, _]) ag28 rfl hB5.agg) rfl rfl rfl rfl fun a16 H28 => ?_
      clear H27 a15
      refine wlc  H28 rfl rfl hb17 rfl (rtag50 (p := ⟨x.base + (k : Int), x.rcv, x.out[k], 0⟩) hN.sat hP3 (by show x.out[k].length ≤ _; omega)) fun v w8 hR a17 H29 => ?_
      clear H28 a16
      obtain ⟨rfl, gw8⟩ := hR
      have hN := hN.ofGr gw8
      replace hB2 := hB2.gr gw8
      replace hB4 := hB4.gr gw8
      replace hB5 := hB5.gr gw8
      refine wl1 H29 (r_fld fld28_3 rfl) rfl rfl rfl rfl fun a18 H30 => ?_
      clear H29 a17
      refine s_store H30 sz22 rfl rfl rfl hN hB5 (by simp) hgeb5 fun w9 hN hB5 ew9 H31 => ?_
      clear H30
      replace hB2 := hB2.otherE ew9 (by omega)
      replace hB4 := hB4.otherE ew9 (by omega)
      simp only [Nat.zero_add, Nat.add_zero, Nat.reduceAdd, Nat.reduceMul, List.set_cons_zero, List.set_cons_succ, spliceL] at hB5
      clear ew9
      refine wl_end ?_
      refine th_n ?_
      refine wpIn_seq ?_
      refine w_reg ?_
      refine wl1 H31 (r_loadA (cs := [_, _, _, _]) ag28 rfl hB5.agg) rfl rfl rfl rfl fun a19 H32 => ?_
      clear H31 a18
      refine wl1 H32 (r_build (v := .agg #[.int .i64 (x.base + (k : Int)), .int .i64 x.rcv, .slice AA x.out[k].length cA, .int .u64 (ptag (key1 x.key) ⟨x.base + (k : Int), x.rcv, x.out[k], 0⟩), .int .i64 0]) rfl (fun w => by kernel_rfl)) rfl rfl rfl rfl fun a20 H33 => ?_
      clear H32 a19
      refine s_storeA (vs := [_, _, _, _, _]) H33 sz44 (by simp) (by simp [Value.oneCell']) rfl rfl hN hB4 (by simp) hgeb4 fun w10 hN hB4 ew10 H34 => ?_
      clear H33
      replace hB2 := hB2.otherE ew10 (by omega)
      replace hB5 := hB5.otherE ew10 (by omega)
      simp only [Nat.zero_add, Nat.add_zero, Nat.reduceAdd, Nat.reduceMul, List.set_cons_zero, List.set_cons_succ, spliceL] at hB4
      clear ew10
      refine wl_end ?_
      refine th_n ?_
      refine wpIn_ret ?_
      refine fin_r H34 (resC rfl H34 rfl hB4 ag44) ?_
      have hlp : lpacket x (k : Int) = lsigned x (x.base + (k : Int)) x.out[k] := by unfold lpacket; rw [if_neg hpe]; simp [hko]
      exact ⟨I, hN, AA, cA, by rw [show lpacketE x (k : Int) = 0 from if_neg hpe, hlp]; rfl, by rw [hlp]; exact ⟨hP3.ks, hL.kr, ptag_inK _ _, hlA, hP3.de⟩⟩
set_option maxRecDepth 100000 in
set_option maxHeartbeats 400000 in
theorem rack_ret {A1 A2 : Option Addr} {c1 c2 : Nat} {x : Lk} {I : Im} {w : World} (hS : Sat I w) (hL : LkAt I x A1 c1 A2 c2) :
    Ret Try.prog 30 [.agg #[.int .u64 x.key, .slice A1 x.out.length c1, .int .i64 x.base, .slice A2 x.inn.length c2, .int .i64 x.rcv]] w (PkPost I w (lsigned x (-1) [])) := by
  refine ret_of (N := 14) Try.func30 rfl rfl rfl fun a0 H0 => ?_
  have hN := New.refl hS
  simp only [argsEnv, Nat.zero_add, Nat.reduceAdd] at H0
  refine wpIn_seq ?_
  refine w_reg ?_
  refine s_box H0 rfl rfl hN fun w1 b1 hN gw1 hB1 hgeb1 heb1 a1 H1 => ?_
  clear H0 a0
  replace hB1 : Box _ _ _ [_, _, _, _, _] 26 := hB1
  refine s_alloc H1 zv28 rfl hN fun w2 b2 hN gw2 hB2 hgeb2 heb2 a2 H2 => ?_
  clear H1 a1
  replace hB2 : Box _ _ _ [.int .i64 0, .int .i64 0, .slice none 0 0, .int .u64 0] 28 := hB2
  have hne_hB1_b2 := hB1.lt
  rw [← heb2] at hne_hB1_b2
  replace hB1 := hB1.gr gw2
  refine wl_end ?_
  refine th_n ?_
  refine wpIn_seq ?_
  refine w_reg ?_
  refine wl1 H2 (r_fld fld26_4 rfl) rfl rfl rfl rfl fun a3 H3 => ?_
  clear H2 a2
  refine wl1 H3 (r_load sc3 rfl (hB1.cell rfl)) rfl rfl rfl rfl fun a4 H4 => ?_
  clear H3 a3
  refine wl1 H4 (r_build (v := .agg #[.int .i64 (-1), .int .i64 x.rcv, .slice none 0 0, .int .u64 0]) rfl (fun w => by kernel_rfl)) rfl rfl rfl rfl fun a5 H5 => ?_
  clear H4 a4
  refine s_alloc H5 zv28 rfl hN fun w3 b3 hN gw3 hB3 hgeb3 heb3 a6 H6 => ?_
  clear H5 a5
  replace hB3 : Box _ _ _ [.int .i64 0, .int .i64 0, .slice none 0 0, .int .u64 0] 28 := hB3
  have hne_hB1_b3 := hB1.lt
  rw [← heb3] at hne_hB1_b3
  have hne_hB2_b3 := hB2.lt
  rw [← heb3] at hne_hB2_b3
  replace hB1 := hB1.gr gw3
  replace hB2 := hB2.gr gw3
  refine s_storeA (vs := [_, _, _, _]) H6 sz28 (by simp) (by simp [Value.oneCell']) rfl rfl hN hB3 (by simp) hgeb3 fun w4 hN hB3 ew4 H7 => ?_
  clear H6
  replace hB1 := hB1.otherE ew4 (by omega)
  replace hB2 := hB2.otherE ew4 (by omega)
  simp only [Nat.zero_add, Nat.add_zero, Nat.reduceAdd, Nat.reduceMul, List.set_cons_zero, List.set_cons_succ, spliceL] at hB3
  clear ew4
  refine wl_end ?_
  refine th_n ?_
  refine wpIn_seq ?_
  refine w_reg ?_
  refine wl1 H7 (r_fld fld26_0 rfl) rfl rfl rfl rfl fun a7 H8 => ?_
  clear H7 a6
  refine wl1 H8 (r_load sc22 rfl (hB1.cell rfl)) rfl rfl rfl rfl fun a8 H9 => ?_
  clear H8 a7
  refine wl1 H9 (r_xor rfl rfl) rfl rfl rfl rfl fun a9 H10 => ?_
  clear H9 a8
  rw [show ibits .xor .u64 x.key 1 = key1 x.key from rfl] at H10
  have hP3 : PkAt I ⟨-1, x.rcv, [], 0⟩ none 0 := ⟨by show InK .i64 (-1); simp [InK], hL.kr, by show InK .u64 0; simp [InK], Nat.le_refl _, Els.nil _ _ _⟩
  refine wl1 H10 (r_loadA (cs := [_, _, _, _]) ag28 rfl hB3.agg) rfl rfl rfl rfl fun a10 H11 => ?_
  clear H10 a9
  refine wlc  H11 rfl rfl hb17 rfl (rtag50 (p := ⟨-1, x.rcv, [], 0⟩) hN.sat hP3 (by simp)) fun v w5 hR a11 H12 => ?_
  clear H11 a10
  obtain ⟨rfl, gw5⟩ := hR
  have hN := hN.ofGr gw5
  replace hB1 := hB1.gr gw5
  replace hB2 := hB2.gr gw5
  replace hB3 := hB3.gr gw5
  refine wl1 H12 (r_fld fld28_3 rfl) rfl rfl rfl rfl fun a12 H13 => ?_
  clear H12 a11
  refine s_store H13 sz22 rfl rfl rfl hN hB3 (by simp) hgeb3 fun w6 hN hB3 ew6 H14 => ?_
  clear H13
  replace hB1 := hB1.otherE ew6 (by omega)
  replace hB2 := hB2.otherE ew6 (by omega)
  simp only [Nat.zero_add, Nat.add_zero, Nat.reduceAdd, Nat.reduceMul, List.set_cons_zero, List.set_cons_succ, spliceL] at hB3
  clear ew6
  refine wl_end ?_
  refine th_n ?_
  refine wpIn_seq ?_
  refine w_reg ?_
  refine wl1 H14 (r_loadA (cs := [_, _, _, _]) ag28 rfl hB3.agg) rfl rfl rfl rfl fun a13 H15 => ?_
  clear H14 a12
  refine s_storeA (vs := [_, _, _, _]) H15 sz28 (by simp) (by simp [Value.oneCell']) rfl rfl hN hB2 (by simp) hgeb2 fun w7 hN hB2 ew7 H16 => ?_
  clear H15
  replace hB1 := hB1.otherE ew7 (by omega)
  replace hB3 := hB3.otherE ew7 (by omega)
  simp only [Nat.zero_add, Nat.add_zero, Nat.reduceAdd, Nat.reduceMul, List.set_cons_zero, List.set_cons_succ, spliceL] at hB2
  clear ew7
  refine wl_end ?_
  refine th_n ?_
  refine wpIn_ret ?_
  refine fin_r H16 (resC rfl H16 rfl hB2 ag28) ?_
  exact ⟨I, hN, none, 0, rfl, ⟨hP3.ks, hL.kr, ptag_inK _ _, Nat.le_refl _, Els.nil _ _ _⟩⟩
end Go.Proofs.Ytjjpaghloaggeaa
