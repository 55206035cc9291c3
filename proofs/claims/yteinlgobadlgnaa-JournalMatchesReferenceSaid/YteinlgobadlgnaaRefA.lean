/- The references of the digest; bytes of words. -/
import Derived.Test.YteinlgobadlgnaaJouH
set_option linter.unusedVariables false
set_option linter.unusedSimpArgs false
namespace Go.Proofs.Yteinlgobadlgnaa
open Go.RowKit


theorem shr32 (n : Int) : n.fdiv (2 ^ min (Int.toNat 32) IntKind.u64.bits) = n / 4294967296 := by
  have e : min (Int.toNat 32) IntKind.u64.bits = 32 := by decide
  rw [e, Int.fdiv_eq_ediv_of_nonneg _ (by decide)]
  rfl
theorem ibits_xor (a b : Int) : ibits .xor .u64 a b = Go.bits .xor .u64 a b := by simp [ibits, Go.bits, bt2]
/-- A slice that a call has made, and that is written no more. -/
def Fresh {α : Type} (d : Kd α) (I : Im) (w : World) (xs : List α) (v : Value) (w' : World) : Prop :=
  ∃ J, New I w J w' ∧ ∃ A c, v = .slice A xs.length c ∧ xs.length ≤ c ∧ Els d J A xs
theorem Apx.fresh {α : Type} {d : Kd α} {I J : Im} {w W : World} {B : Nat} {e : TypeId} {v : Value} {xs : List α} (h : Apx d J W B e v xs) (hN : New I w J W) (hB : w.heap.size ≤ B) : Fresh d I w xs v W := by
  obtain ⟨K, A, c, hK, _, _, hv, hc, hE⟩ := h.freeze hN hB
  exact ⟨K, hK, A, c, hv, hc, hE⟩

set_option maxRecDepth 100000 in
set_option maxHeartbeats 400000 in
theorem rstep {h x : Int} {I : Im} {w : World} (hS : Sat I w)  :
    Ret Try.prog 39 [.int .u64 h, .int .u64 x] w (fun v w' => v = .int .u64 (dstep h x) ∧ Gr w w') := by
  refine ret_of (N := 17) Try.func39 rfl rfl rfl fun a0 H0 => ?_
  have hN := New.refl hS
  simp only [argsEnv, Nat.zero_add, Nat.reduceAdd] at H0
  refine wpIn_seq ?_
  refine w_reg ?_
  refine wl1 H0 (r_assign rfl) rfl rfl rfl rfl fun a1 H1 => ?_
  clear H0 a0
  refine wl_end ?_
  refine th_n ?_
  refine wpIn_seq ?_
  refine w_reg ?_
  refine wl1 H1 (r_move rfl) rfl rfl rfl rfl fun a2 H2 => ?_
  clear H1 a1
  refine wl1 H2 (r_move rfl) rfl rfl rfl rfl fun a3 H3 => ?_
  clear H2 a2
  refine wl1 H3 (r_xor rfl rfl) rfl rfl rfl rfl fun a4 H4 => ?_
  clear H3 a3
  first | refine wl1 H4 (r_mulk rfl rfl (by simp only [InK]; omega)) rfl rfl rfl rfl fun a5 H5 => ?_ | refine wl1 H4 (r_mul rfl rfl) rfl rfl rfl rfl fun a5 H5 => ?_
  clear H4 a4
  refine wl1 H5 (r_assign rfl) rfl rfl rfl rfl fun a6 H6 => ?_
  clear H5 a5
  refine wl_end ?_
  refine th_n ?_
  refine wpIn_seq ?_
  refine w_reg ?_
  refine wl1 H6 (r_move rfl) rfl rfl rfl rfl fun a7 H7 => ?_
  clear H6 a6
  refine wl1 H7 (r_move rfl) rfl rfl rfl rfl fun a8 H8 => ?_
  clear H7 a7
  refine wl1 H8 (r_shr rfl rfl (by omega)) rfl rfl rfl rfl fun a9 H9 => ?_
  clear H8 a8
  refine wl1 H9 (r_xor rfl rfl) rfl rfl rfl rfl fun a10 H10 => ?_
  clear H9 a9
  refine wl1 H10 (r_assign rfl) rfl rfl rfl rfl fun a11 H11 => ?_
  clear H10 a10
  refine wl_end ?_
  refine th_n ?_
  refine wpIn_seq ?_
  refine w_reg ?_
  refine wl1 H11 (r_move rfl) rfl rfl rfl rfl fun a12 H12 => ?_
  clear H11 a11
  first | refine wl1 H12 (r_mulk rfl rfl (by simp only [InK]; omega)) rfl rfl rfl rfl fun a13 H13 => ?_ | refine wl1 H12 (r_mul rfl rfl) rfl rfl rfl rfl fun a13 H13 => ?_
  clear H12 a12
  refine wl1 H13 (r_assign rfl) rfl rfl rfl rfl fun a14 H14 => ?_
  clear H13 a13
  refine wl_end ?_
  refine th_n ?_
  refine wpIn_ret ?_
  refine fin_r H14 (res1 rfl H14 rfl) ?_
  exact ⟨by unfold dstep; rw [ibits_xor, ibits_xor, shr32], hN.gr⟩
set_option maxRecDepth 100000 in
set_option maxHeartbeats 400000 in
theorem rwords {A : Option Addr} {l : List Int} {c : Nat} {I : Im} {w : World} (hS : Sat I w) (hA : Els (kInt .i64) I A l) :
    Ret Try.prog 40 [.slice A l.length c] w (fun v w' => v = .int .u64 (dwords l) ∧ Gr w w') := by
  have hl := hA.1
  refine ret_of (N := 23) Try.func40 rfl rfl rfl fun a0 H0 => ?_
  have hN := New.refl hS
  simp only [argsEnv, Nat.zero_add, Nat.reduceAdd] at H0
  refine wpIn_seq ?_
  refine w_reg ?_
  refine wl1 H0 (r_assign rfl) rfl rfl rfl rfl fun a1 H1 => ?_
  clear H0 a0
  refine wl_end ?_
  refine th_n ?_
  refine wpIn_seq ?_
  refine w_reg ?_
  refine wl1 H1 (r_assign rfl) rfl rfl rfl rfl fun a2 H2 => ?_
  clear H1 a1
  refine wl_end ?_
  refine th_n ?_
  refine wpIn_seq ?_
  refine wpIn_seq ?_
  refine w_reg ?_
  refine wl1 H2 (r_assign rfl) rfl rfl rfl rfl fun a3 H3 => ?_
  clear H2 a2
  refine wl_end ?_
  refine th_n ?_
  refine wpIn_block ?_
  refine w_loop (ι := Nat) (fun k => [(3, .int .u64 (dfold 512970876019 ((l.take k).map u64))), (4, .int .i64 (k : Int))]) (fun k W => New I w I W ∧ (k ≤ l.length)) (fun k => l.length - k) (l0 := [(0, _), (2, _)]) 0 H3 ⟨rfl, rfl, rfl, rfl, trivial⟩ ⟨hN, by omega⟩ ?_
  rintro k a4 w1 H4 ⟨hN, hk⟩
  clear H3 a3
  simp only [List.cons_append, List.nil_append] at H4
  refine wpIn_seq ?_
  refine wpIn_seq ?_
  refine w_reg ?_
  refine wl1 H4 (r_move rfl) rfl rfl rfl rfl fun a5 H5 => ?_
  clear H4 a4
  refine wl1 H5 (r_move rfl) rfl rfl rfl rfl fun a6 H6 => ?_
  clear H5 a5
  refine wl1 H6 (r_len Try.underlying29 rfl) rfl rfl rfl rfl fun a7 H7 => ?_
  clear H6 a6
  refine wl1 H7 (r_lss rfl rfl) rfl rfl rfl rfl fun a8 H8 => ?_
  clear H7 a7
  refine wl_end ?_
  refine th_n ?_
  first | refine w_if H8 rfl (fun hc8 => ?_) (fun hc8 => ?_) | refine w_cond H8 rfl (fun hc8 => ?_) (fun hc8 => ?_)
  ·
    try simp only [decide_eq_true_eq, decide_eq_false_iff_not, Bool.or_eq_true, Bool.and_eq_true, Bool.or_eq_false_iff, Bool.and_eq_false_iff, Bool.not_eq_true', Bool.not_eq_false', Int.not_lt, Int.not_le, ne_eq, Decidable.not_not] at hc8
    obtain ⟨bA, oA, rfl⟩ := hA.form (by omega)
    have hkw : k < l.length := by omega
    refine wpIn_skip ?_
    refine th_n ?_
    refine wpIn_seq ?_
    refine wpIn_block ?_
    refine w_reg ?_
    refine wl1 H8 (r_move rfl) rfl rfl rfl rfl fun a9 H9 => ?_
    clear H8 a8
    refine wl1 H9 (r_move rfl) rfl rfl rfl rfl fun a10 H10 => ?_
    clear H9 a9
    refine wl1 H10 (r_move rfl) rfl rfl rfl rfl fun a11 H11 => ?_
    clear H10 a10
    refine wl1 H11 (r_idx Try.underlying29 sz3 rfl rfl (i := k) rfl (by omega)) rfl rfl rfl rfl fun a12 H12 => ?_
    clear H11 a11
    refine wl1 H12 (r_load sc3 rfl (hN.sat.cell (hA.num (j := k) (by omega)).1)) rfl rfl rfl rfl fun a13 H13 => ?_
    clear H12 a12
    refine wl1 H13 (r_conv Try.underlying3 Try.underlying32 rfl) rfl rfl rfl rfl fun a14 H14 => ?_
    clear H13 a13
    refine wlc  H14 rfl rfl hb39 rfl (rstep hN.sat) fun v w2 hR a15 H15 => ?_
    clear H14 a14
    obtain ⟨rfl, gw2⟩ := hR
    have hN := hN.ofGr gw2
    rw [show dstep (dfold 512970876019 ((l.take k).map u64)) (IntKind.u64.wrap l[k]) = dfold 512970876019 ((l.take (k + 1)).map u64) from (dfold_take_u64 _ _ _ hkw).symm] at H15
    refine wl1 H15 (r_assign rfl) rfl rfl rfl rfl fun a16 H16 => ?_
    clear H15 a15
    refine wl_end ?_
    refine bl_n ?_
    refine th_n ?_
    refine w_reg ?_
    refine wl1 H16 (r_move rfl) rfl rfl rfl rfl fun a17 H17 => ?_
    clear H16 a16
    first | refine wl1 H17 (r_addk rfl rfl (by simp only [InK]; omega)) rfl rfl rfl rfl fun a18 H18 => ?_ | refine wl1 H17 (r_add rfl rfl) rfl rfl rfl rfl fun a18 H18 => ?_
    clear H17 a17
    refine wl1 H18 (r_assign rfl) rfl rfl rfl rfl fun a19 H19 => ?_
    clear H18 a18
    refine wl_end ?_
    exact th_n ⟨k + 1, (by omega), H19.sub ⟨rfl, rfl, rfl, rfl, trivial⟩, hN, by omega⟩
  ·
    try simp only [decide_eq_true_eq, decide_eq_false_iff_not, Bool.or_eq_true, Bool.and_eq_true, Bool.or_eq_false_iff, Bool.and_eq_false_iff, Bool.not_eq_true', Bool.not_eq_false', Int.not_lt, Int.not_le, ne_eq, Decidable.not_not] at hc8
    refine wpIn_exit ?_
    refine th_x ?_
    refine th_x ?_
    refine bl_hit ?_
    refine th_n ?_
    refine wpIn_seq ?_
    refine w_reg ?_
    refine wl1 H8 (r_move rfl) rfl rfl rfl rfl fun a9 H20 => ?_
    clear H8 a8
    refine wl1 H20 (r_move rfl) rfl rfl rfl rfl fun a10 H21 => ?_
    clear H20 a9
    refine wl1 H21 (r_len Try.underlying29 rfl) rfl rfl rfl rfl fun a11 H22 => ?_
    clear H21 a10
    first | refine wl1 H22 (r_convk Try.underlying3 Try.underlying32 rfl (by simp only [InK]; omega)) rfl rfl rfl rfl fun a12 H23 => ?_ | refine wl1 H22 (r_conv Try.underlying3 Try.underlying32 rfl) rfl rfl rfl rfl fun a12 H23 => ?_
    clear H22 a11
    rw [show k = l.length by omega, List.take_length] at H23
    refine wlc  H23 rfl rfl hb39 rfl (rstep hN.sat) fun v w3 hR a13 H24 => ?_
    clear H23 a12
    obtain ⟨rfl, gw3⟩ := hR
    have hN := hN.ofGr gw3
    refine wl1 H24 (r_assign rfl) rfl rfl rfl rfl fun a14 H25 => ?_
    clear H24 a13
    refine wl_end ?_
    refine th_n ?_
    refine wpIn_ret ?_
    refine fin_r H25 (res1 rfl H25 rfl) ?_
    exact ⟨rfl, hN.gr⟩
set_option maxRecDepth 100000 in
set_option maxHeartbeats 400000 in
theorem rtag {A : Option Addr} {l : List Int} {n c : Nat} {key : Int} {I : Im} {w : World} (hS : Sat I w) (hA : Els (kInt .i64) I A l) (hn : l.length = n) :
    Ret Try.prog 34 [.int .u64 key, .slice A n c] w (fun v w' => v = .int .u64 (dtag key l) ∧ Gr w w') := by
  subst hn
  refine ret_of (N := 9) Try.func34 rfl rfl rfl fun a0 H0 => ?_
  have hN := New.refl hS
  simp only [argsEnv, Nat.zero_add, Nat.reduceAdd] at H0
  refine wpIn_seq ?_
  refine w_reg ?_
  refine wl1 H0 (r_assign rfl) rfl rfl rfl rfl fun a1 H1 => ?_
  clear H0 a0
  refine wl_end ?_
  refine th_n ?_
  refine wpIn_seq ?_
  refine w_reg ?_
  refine wl1 H1 (r_move rfl) rfl rfl rfl rfl fun a2 H2 => ?_
  clear H1 a1
  refine wl1 H2 (r_move rfl) rfl rfl rfl rfl fun a3 H3 => ?_
  clear H2 a2
  refine wlc  H3 rfl rfl hb40 rfl (rwords hN.sat hA) fun v w1 hR a4 H4 => ?_
  clear H3 a3
  obtain ⟨rfl, gw1⟩ := hR
  have hN := hN.ofGr gw1
  refine wlc  H4 rfl rfl hb39 rfl (rstep hN.sat) fun v w2 hR a5 H5 => ?_
  clear H4 a4
  obtain ⟨rfl, gw2⟩ := hR
  have hN := hN.ofGr gw2
  refine wl1 H5 (r_assign rfl) rfl rfl rfl rfl fun a6 H6 => ?_
  clear H5 a5
  refine wl_end ?_
  refine th_n ?_
  refine wpIn_ret ?_
  refine fin_r H6 (res1 rfl H6 rfl) ?_
  exact ⟨rfl, hN.gr⟩
set_option maxRecDepth 100000 in
set_option maxHeartbeats 400000 in
theorem rwith {A : Option Addr} {c : Nat} {xs : List Int} {n : Int} {I : Im} {w : World} (hS : Sat I w) (hA : Els (kInt .u8) I A xs) (hn : InK .u64 n) (hl : xs.length ≤ 1048576) :
    Ret Try.prog 37 [.slice A xs.length c, .int .u64 n] w (Fresh (kInt .u8) I w (xs ++ wbytes n)) := by
  refine ret_of (N := 24) Try.func37 rfl rfl rfl fun a0 H0 => ?_
  have hN := New.refl hS
  simp only [argsEnv, Nat.zero_add, Nat.reduceAdd] at H0
  refine wpIn_seq ?_
  refine w_reg ?_
  refine wl1 H0 (r_assign rfl) rfl rfl rfl rfl fun a1 H1 => ?_
  clear H0 a0
  refine wl_end ?_
  refine th_n ?_
  refine wpIn_seq ?_
  refine w_reg ?_
  refine s_lit1 (cs := []) H1 Try.underlying22 sz5 zv5 rfl rfl rfl (by simp [Value.oneCell']) rfl hN fun w1 l7 K1 hKl7 hlel7 hN nw1 hgel7 a2 H2 => ?_
  clear H1 a1
  replace hA := hA.up nw1.le
  refine wl1 H2 (r_move rfl) rfl rfl rfl rfl fun a3 H3 => ?_
  clear H2 a2
  refine s_app (B := w.heap.size) H3 rfl rfl Try.underlying22 nf5 rfl (by decide) (by decide) rfl hN (.inr ⟨_, rfl, Els.nil _ _ _⟩) hA rfl (Nat.le_refl _) hN.gr.size (by simp; omega) fun vw2 w2 hO hOO hOO2 kw2 hN a4 H4 => ?_
  clear H3 a3
  refine wl1 H4 (r_assign rfl) rfl rfl rfl rfl fun a5 H5 => ?_
  clear H4 a4
  refine wl_end ?_
  refine th_n ?_
  refine wpIn_seq ?_
  refine wpIn_seq ?_
  refine w_reg ?_
  refine wl1 H5 (r_assign rfl) rfl rfl rfl rfl fun a6 H6 => ?_
  clear H5 a5
  refine wl_end ?_
  refine th_n ?_
  refine wpIn_block ?_
  refine w_loop (ι := (Nat × Value) × Im) (fun xJ => (fun x => [(6, .int .i64 (x.1 : Int)), (5, x.2)]) xJ.1) (fun xJ W => Im.le K1 xJ.2 ∧ New I w xJ.2 W ∧ (fun x (J : Im) => x.1 ≤ 8 ∧ Apx (kInt .u8) J W w.heap.size 5 x.2 (xs ++ (wbytes n).take x.1)) xJ.1 xJ.2) (fun xJ => (fun x => 8 - x.1) xJ.1) (l0 := [(1, _), (4, _)]) ((0, _), K1) H6 ⟨rfl, rfl, rfl, rfl, trivial⟩ ⟨Im.le.refl _, hN, by show (0:Nat) ≤ 8; omega, by simpa using hO⟩ ?_
  rintro ⟨⟨k, u⟩, J3⟩ a7 w3 H7 ⟨hleJ1, hN, hk, hO⟩
  clear H6 a6
  simp only [List.cons_append, List.nil_append] at H7
  try dsimp only at hleJ1
  try dsimp only at hN
  replace hA := hA.up hleJ1
  simp only at hk hO H7
  try dsimp only at hO
  try dsimp only at hk
  refine wpIn_seq ?_
  refine wpIn_seq ?_
  refine w_reg ?_
  refine wl1 H7 (r_move rfl) rfl rfl rfl rfl fun a8 H8 => ?_
  clear H7 a7
  refine wl1 H8 (r_lss rfl rfl) rfl rfl rfl rfl fun a9 H9 => ?_
  clear H8 a8
  refine wl_end ?_
  refine th_n ?_
  first | refine w_if H9 rfl (fun hc11 => ?_) (fun hc11 => ?_) | refine w_cond H9 rfl (fun hc11 => ?_) (fun hc11 => ?_)
  ·
    try simp only [decide_eq_true_eq, decide_eq_false_iff_not, Bool.or_eq_true, Bool.and_eq_true, Bool.or_eq_false_iff, Bool.and_eq_false_iff, Bool.not_eq_true', Bool.not_eq_false', Int.not_lt, Int.not_le, ne_eq, Decidable.not_not] at hc11
    refine wpIn_skip ?_
    refine th_n ?_
    refine wpIn_seq ?_
    refine wpIn_block ?_
    refine w_reg ?_
    refine wl1 H9 (r_move rfl) rfl rfl rfl rfl fun a10 H10 => ?_
    clear H9 a9
    refine wl1 H10 (r_move rfl) rfl rfl rfl rfl fun a11 H11 => ?_
    clear H10 a10
    refine wl1 H11 (r_move rfl) rfl rfl rfl rfl fun a12 H12 => ?_
    clear H11 a11
    first | refine wl1 H12 (r_mulk rfl rfl (by simp only [InK]; omega)) rfl rfl rfl rfl fun a13 H13 => ?_ | refine wl1 H12 (r_mul rfl rfl) rfl rfl rfl rfl fun a13 H13 => ?_
    clear H12 a12
    first | refine wl1 H13 (r_convk Try.underlying3 Try.underlying64 rfl (by simp only [InK]; omega)) rfl rfl rfl rfl fun a14 H14 => ?_ | refine wl1 H13 (r_conv Try.underlying3 Try.underlying64 rfl) rfl rfl rfl rfl fun a14 H14 => ?_
    clear H13 a13
    refine wl1 H14 (r_shr rfl rfl (by omega)) rfl rfl rfl rfl fun a15 H15 => ?_
    clear H14 a14
    refine wl1 H15 (r_conv Try.underlying32 Try.underlying5 rfl) rfl rfl rfl rfl fun a16 H16 => ?_
    clear H15 a15
    rw [byte_conv n hn k (by omega)] at H16
    refine s_lit1 (cs := [_]) H16 Try.underlying22 sz5 zv5 rfl rfl rfl (by simp [Value.oneCell']) rfl hN fun w4 l21 K4 hKl21 hlel21 hN nw4 hgel21 a17 H17 => ?_
    clear H16 a16
    replace hA := hA.up nw4.le
    replace hO := hO.next nw4
    replace hleJ1 := hleJ1.trans nw4.le
    have hE : Els (kInt .u8) K4 (some ⟨l21, 0, none⟩) [byteAt n k] := Els.nums hKl21 (by simp) (by simp only [List.mem_singleton, InK]; rintro x rfl; unfold byteAt; omega)
    refine s_app  H17 rfl rfl Try.underlying22 nf5 rfl (by decide) (by decide) rfl hN hO hE rfl (Nat.le_refl _) hN.gr.size (by simp only [List.length_append, List.length_take, wbytes_length]; omega) fun vw5 w5 hO hOO hOO2 kw5 hN a18 H18 => ?_
    clear H17 a17
    rw [show xs ++ (wbytes n).take k ++ [byteAt n k] = xs ++ (wbytes n).take (k + 1) from by rw [wbytes_take n k (by omega), List.append_assoc]] at hO
    refine wl1 H18 (r_assign rfl) rfl rfl rfl rfl fun a19 H19 => ?_
    clear H18 a18
    refine wl_end ?_
    refine bl_n ?_
    refine th_n ?_
    refine w_reg ?_
    refine wl1 H19 (r_move rfl) rfl rfl rfl rfl fun a20 H20 => ?_
    clear H19 a19
    first | refine wl1 H20 (r_addk rfl rfl (by simp only [InK]; omega)) rfl rfl rfl rfl fun a21 H21 => ?_ | refine wl1 H20 (r_add rfl rfl) rfl rfl rfl rfl fun a21 H21 => ?_
    clear H20 a20
    refine wl1 H21 (r_assign rfl) rfl rfl rfl rfl fun a22 H22 => ?_
    clear H21 a21
    refine wl_end ?_
    exact th_n ⟨((k + 1, _), K4), (by show 8 - (k + 1) < 8 - k; omega), H22.sub ⟨rfl, rfl, rfl, rfl, trivial⟩, hleJ1, hN, by show k + 1 ≤ 8; omega, hO⟩
  ·
    try simp only [decide_eq_true_eq, decide_eq_false_iff_not, Bool.or_eq_true, Bool.and_eq_true, Bool.or_eq_false_iff, Bool.and_eq_false_iff, Bool.not_eq_true', Bool.not_eq_false', Int.not_lt, Int.not_le, ne_eq, Decidable.not_not] at hc11
    refine wpIn_exit ?_
    refine th_x ?_
    refine th_x ?_
    refine bl_hit ?_
    refine th_n ?_
    refine wpIn_seq ?_
    refine w_reg ?_
    refine wl1 H9 (r_move rfl) rfl rfl rfl rfl fun a10 H23 => ?_
    clear H9 a9
    refine wl1 H23 (r_assign rfl) rfl rfl rfl rfl fun a11 H24 => ?_
    clear H23 a10
    refine wl_end ?_
    refine th_n ?_
    refine wpIn_ret ?_
    refine fin_r H24 (res1 rfl H24 rfl) ?_
    exact (by rw [show k = 8 by omega, List.take_of_length_le (by simp [wbytes_length])] at hO; exact hO.fresh hN (Nat.le_refl _))
end Go.Proofs.Yteinlgobadlgnaa
