/- The reference of digests and trees. -/
import Derived.Test.YtlikefnngkokhaaDigA
set_option linter.unusedVariables false
set_option linter.unusedSimpArgs false
namespace Go.Proofs.Ytlikefnngkokhaa
open Go.RowKit


theorem Els.bool {I : Im} {b o : Nat} {xs : List Bool} (h : Els kBool I (some ⟨b, o, none⟩) xs) {j : Nat} (hj : j < xs.length) : I.cell? ⟨b, o + j * 1, none⟩ = some (.bool xs[j]) := by
  obtain ⟨vs, hv, hc⟩ := h.at_ (List.getElem?_eq_getElem hj)
  have hv' : vs = [.bool xs[j]] := hv
  subst hv'
  have := hc 0 (.bool xs[j]) rfl
  simpa [kBool] using this
theorem eq_next {P pt : List Int} {j : Nat} (hP : j < P.length) (hp : j < pt.length) {g0 x : Int} : (g0 = x ∧ P.take (j + 1) = pt.take (j + 1)) ↔ (g0 = x ∧ P.take j = pt.take j) ∧ P[j] = pt[j] := by
  rw [take_snoc' P j hP, take_snoc' pt j hp]
  constructor
  · rintro ⟨h1, h2⟩
    have := List.append_inj h2 (by simp; omega)
    exact ⟨⟨h1, this.1⟩, by simpa using this.2⟩
  · rintro ⟨⟨h1, h2⟩, h3⟩
    exact ⟨h1, by rw [h2, h3]⟩
theorem binds_end {d P pt : List Int} {S : List Bool} {i : Nat} {x : Int} (hi : i < d.length) (hn : d.length ≤ 4096) (hP : P = dpath d i) (hS : S = dsides d.length i) (hck : dcheck (droot d) d.length i x pt = 0) :
    S.length = P.length ∧ pt.length = S.length ∧ dfoldUp d[i] P S = droot d ∧ dfoldUp x pt S = droot d := by
  have e := dsides_eq d.length d.length i (Nat.le_refl _) hi
  rw [e] at hS
  have h1 := dpath_sides _ d i (Nat.le_refl _)
  rw [← hP, ← hS] at h1
  rw [dcheck_eq _ _ _ (by omega) hn hi, ← hS] at hck
  have h2 : pt.length = S.length ∧ dfoldUp x pt S = droot d := by
    by_cases h : pt.length = S.length ∧ dfoldUp x pt S = droot d
    · exact h
    · rw [if_neg h] at hck; cases hck
  have h3 := droot_fold d i hi
  rw [← hP, ← hS, List.getD_eq_getElem?_getD, List.getElem?_eq_getElem hi] at h3
  exact ⟨h1.symm, h2.1, h3.symm, h2.2⟩

set_option maxRecDepth 100000 in
set_option maxHeartbeats 400000 in
theorem rwords {A : Option Addr} {l : List Int} {c : Nat} {I : Im} {w : World} (hS : Sat I w) (hA : Els (kInt .i64) I A l) :
    Ret Try.prog 18 [.slice A l.length c] w (fun v w' => v = .int .u64 (dwords l) ∧ Gr w w') := by
  have hl := hA.1
  refine ret_of (N := 23) Try.func18 rfl rfl rfl fun a0 H0 => ?_
  have hN := New.refl hS
  simp only [argsEnv, Nat.zero_add, Nat.reduceAdd] at H0
  refine wpIn_seq ?_
  refine w_reg ?_
  refine wl1 H0 (r_assign rfl) rfl rfl rfl rfl fun a1 H1 => ?_
  clear H0 a0
  refine wl_end ?_
  refine th_n ?_
  refine wpIn_seq ?_
  refine w_reg ?_
  refine wl1 H1 (r_assign rfl) rfl rfl rfl rfl fun a2 H2 => ?_
  clear H1 a1
  refine wl_end ?_
  refine th_n ?_
  refine wpIn_seq ?_
  refine wpIn_seq ?_
  refine w_reg ?_
  refine wl1 H2 (r_assign rfl) rfl rfl rfl rfl fun a3 H3 => ?_
  clear H2 a2
  refine wl_end ?_
  refine th_n ?_
  refine wpIn_block ?_
  refine w_loop (ι := Nat) (fun k => [(3, .int .u64 (dfold 512970876019 ((l.take k).map u64))), (4, .int .i64 (k : Int))]) (fun k W => New I w I W ∧ (k ≤ l.length)) (fun k => l.length - k) (l0 := [(0, _), (2, _)]) 0 H3 ⟨rfl, rfl, rfl, rfl, trivial⟩ ⟨hN, by omega⟩ ?_
  rintro k a4 w1 H4 ⟨hN, hk⟩
  clear H3 a3
  simp only [List.cons_append, List.nil_append] at H4
  refine wpIn_seq ?_
  refine wpIn_seq ?_
  refine w_reg ?_
  refine wl1 H4 (r_move rfl) rfl rfl rfl rfl fun a5 H5 => ?_
  clear H4 a4
  refine wl1 H5 (r_move rfl) rfl rfl rfl rfl fun a6 H6 => ?_
  clear H5 a5
  refine wl1 H6 (r_len Try.underlying47 rfl) rfl rfl rfl rfl fun a7 H7 => ?_
  clear H6 a6
  refine wl1 H7 (r_lss rfl rfl) rfl rfl rfl rfl fun a8 H8 => ?_
  clear H7 a7
  refine wl_end ?_
  refine th_n ?_
  first | refine w_if H8 rfl (fun hc8 => ?_) (fun hc8 => ?_) | refine w_cond H8 rfl (fun hc8 => ?_) (fun hc8 => ?_)
  ·
    try simp only [decide_eq_true_eq, decide_eq_false_iff_not, Bool.or_eq_true, Bool.and_eq_true, Bool.or_eq_false_iff, Bool.and_eq_false_iff, Bool.not_eq_true', Bool.not_eq_false', Int.not_lt, Int.not_le, ne_eq, Decidable.not_not] at hc8
    obtain ⟨bA, oA, rfl⟩ := hA.form (by omega)
    have hkw : k < l.length := by omega
    refine wpIn_skip ?_
    refine th_n ?_
    refine wpIn_seq ?_
    refine wpIn_block ?_
    refine w_reg ?_
    refine wl1 H8 (r_move rfl) rfl rfl rfl rfl fun a9 H9 => ?_
    clear H8 a8
    refine wl1 H9 (r_move rfl) rfl rfl rfl rfl fun a10 H10 => ?_
    clear H9 a9
    refine wl1 H10 (r_move rfl) rfl rfl rfl rfl fun a11 H11 => ?_
    clear H10 a10
    refine wl1 H11 (r_idx Try.underlying47 sz3 rfl rfl (i := k) rfl (by omega)) rfl rfl rfl rfl fun a12 H12 => ?_
    clear H11 a11
    refine wl1 H12 (r_load sc3 rfl (hN.sat.cell (hA.num (j := k) (by omega)).1)) rfl rfl rfl rfl fun a13 H13 => ?_
    clear H12 a12
    refine wl1 H13 (r_conv Try.underlying3 Try.underlying33 rfl) rfl rfl rfl rfl fun a14 H14 => ?_
    clear H13 a13
    refine wlc  H14 rfl rfl hb28 rfl (br_step hN.sat) fun v w2 hR a15 H15 => ?_
    clear H14 a14
    obtain ⟨rfl, gw2⟩ := hR
    have hN := hN.ofGr gw2
    rw [show dstep (dfold 512970876019 ((l.take k).map u64)) (IntKind.u64.wrap l[k]) = dfold 512970876019 ((l.take (k + 1)).map u64) from (dfold_take_u64 _ _ _ hkw).symm] at H15
    refine wl1 H15 (r_assign rfl) rfl rfl rfl rfl fun a16 H16 => ?_
    clear H15 a15
    refine wl_end ?_
    refine bl_n ?_
    refine th_n ?_
    refine w_reg ?_
    refine wl1 H16 (r_move rfl) rfl rfl rfl rfl fun a17 H17 => ?_
    clear H16 a16
    first | refine wl1 H17 (r_addk rfl rfl (by simp only [InK]; omega)) rfl rfl rfl rfl fun a18 H18 => ?_ | refine wl1 H17 (r_add rfl rfl) rfl rfl rfl rfl fun a18 H18 => ?_
    clear H17 a17
    refine wl1 H18 (r_assign rfl) rfl rfl rfl rfl fun a19 H19 => ?_
    clear H18 a18
    refine wl_end ?_
    exact th_n ⟨k + 1, (by omega), H19.sub ⟨rfl, rfl, rfl, rfl, trivial⟩, hN, by omega⟩
  ·
    try simp only [decide_eq_true_eq, decide_eq_false_iff_not, Bool.or_eq_true, Bool.and_eq_true, Bool.or_eq_false_iff, Bool.and_eq_false_iff, Bool.not_eq_true', Bool.not_eq_false', Int.not_lt, Int.not_le, ne_eq, Decidable.not_not] at hc8
    refine wpIn_exit ?_
    refine th_x ?_
    refine th_x ?_
    refine bl_hit ?_
    refine th_n ?_
    refine wpIn_seq ?_
    refine w_reg ?_
    refine wl1 H8 (r_move rfl) rfl rfl rfl rfl fun a9 H20 => ?_
    clear H8 a8
    refine wl1 H20 (r_move rfl) rfl rfl rfl rfl fun a10 H21 => ?_
    clear H20 a9
    refine wl1 H21 (r_len Try.underlying47 rfl) rfl rfl rfl rfl fun a11 H22 => ?_
    clear H21 a10
    first | refine wl1 H22 (r_convk Try.underlying3 Try.underlying33 rfl (by simp only [InK]; omega)) rfl rfl rfl rfl fun a12 H23 => ?_ | refine wl1 H22 (r_conv Try.underlying3 Try.underlying33 rfl) rfl rfl rfl rfl fun a12 H23 => ?_
    clear H22 a11
    rw [show k = l.length by omega, List.take_length] at H23
    refine wlc  H23 rfl rfl hb28 rfl (br_step hN.sat) fun v w3 hR a13 H24 => ?_
    clear H23 a12
    obtain ⟨rfl, gw3⟩ := hR
    have hN := hN.ofGr gw3
    refine wl1 H24 (r_assign rfl) rfl rfl rfl rfl fun a14 H25 => ?_
    clear H24 a13
    refine wl_end ?_
    refine th_n ?_
    refine wpIn_ret ?_
    refine fin_r H25 (res1 rfl H25 rfl) ?_
    exact ⟨rfl, hN.gr⟩
set_option maxRecDepth 100000 in
set_option maxHeartbeats 400000 in
theorem rtag {A : Option Addr} {l : List Int} {n c : Nat} {key : Int} {I : Im} {w : World} (hS : Sat I w) (hA : Els (kInt .i64) I A l) (hn : l.length = n) :
    Ret Try.prog 24 [.int .u64 key, .slice A n c] w (fun v w' => v = .int .u64 (dtag key l) ∧ Gr w w') := by
  subst hn
  refine ret_of (N := 9) Try.func24 rfl rfl rfl fun a0 H0 => ?_
  have hN := New.refl hS
  simp only [argsEnv, Nat.zero_add, Nat.reduceAdd] at H0
  refine wpIn_seq ?_
  refine w_reg ?_
  refine wl1 H0 (r_assign rfl) rfl rfl rfl rfl fun a1 H1 => ?_
  clear H0 a0
  refine wl_end ?_
  refine th_n ?_
  refine wpIn_seq ?_
  refine w_reg ?_
  refine wl1 H1 (r_move rfl) rfl rfl rfl rfl fun a2 H2 => ?_
  clear H1 a1
  refine wl1 H2 (r_move rfl) rfl rfl rfl rfl fun a3 H3 => ?_
  clear H2 a2
  refine wlc  H3 rfl rfl hb18 rfl (rwords hN.sat hA) fun v w1 hR a4 H4 => ?_
  clear H3 a3
  obtain ⟨rfl, gw1⟩ := hR
  have hN := hN.ofGr gw1
  refine wlc  H4 rfl rfl hb28 rfl (br_step hN.sat) fun v w2 hR a5 H5 => ?_
  clear H4 a4
  obtain ⟨rfl, gw2⟩ := hR
  have hN := hN.ofGr gw2
  refine wl1 H5 (r_assign rfl) rfl rfl rfl rfl fun a6 H6 => ?_
  clear H5 a5
  refine wl_end ?_
  refine th_n ?_
  refine wpIn_ret ?_
  refine fin_r H6 (res1 rfl H6 rfl) ?_
  exact ⟨rfl, hN.gr⟩
set_option maxRecDepth 100000 in
set_option maxHeartbeats 400000 in
theorem rbytes {A : Option Addr} {l : List Int} {c : Nat} {I : Im} {w : World} (hS : Sat I w) (hA : Els (kInt .u8) I A l) (hmax : l.length ≤ 1048576) :
    Ret Try.prog 20 [.slice A l.length c] w (fun v w' => v = .int .u64 (dbytes l) ∧ Gr w w') := by
  have hl := hA.1
  have hIB : isB l := hA.inK
  refine ret_of (N := 46) Try.func20 rfl rfl rfl fun a0 H0 => ?_
  have hN := New.refl hS
  simp only [argsEnv, Nat.zero_add, Nat.reduceAdd] at H0
  refine wpIn_seq ?_
  refine w_reg ?_
  refine wl1 H0 (r_assign rfl) rfl rfl rfl rfl fun a1 H1 => ?_
  clear H0 a0
  refine wl_end ?_
  refine th_n ?_
  refine wpIn_seq ?_
  refine w_reg ?_
  refine wl1 H1 (r_assign rfl) rfl rfl rfl rfl fun a2 H2 => ?_
  clear H1 a1
  refine wl_end ?_
  refine th_n ?_
  refine wpIn_seq ?_
  refine wpIn_seq ?_
  refine w_reg ?_
  refine wl1 H2 (r_assign rfl) rfl rfl rfl rfl fun a3 H3 => ?_
  clear H2 a2
  refine wl_end ?_
  refine th_n ?_
  refine wpIn_block ?_
  refine w_loop (ι := Nat × List Int) (fun x => [(3, .int .u64 (dfold 422944466291 x.2)), (4, .int .i64 (x.1 : Int))]) (fun x W => New I w I W ∧ (x.1 ≤ l.length + 8 ∧ dgroups l = x.2 ++ dgroups (l.drop x.1))) (fun x => l.length - x.1) (l0 := [(0, _), (2, _)]) (0, []) H3 ⟨rfl, rfl, rfl, rfl, trivial⟩ ⟨hN, Nat.zero_le _, by simp⟩ ?_
  rintro ⟨i, ws⟩ a4 w1 H4 ⟨hN, hi, hws⟩
  clear H3 a3
  simp only [List.cons_append, List.nil_append] at H4
  simp only at hi hws H4
  refine wpIn_seq ?_
  refine wpIn_seq ?_
  refine w_reg ?_
  refine wl1 H4 (r_move rfl) rfl rfl rfl rfl fun a5 H5 => ?_
  clear H4 a4
  refine wl1 H5 (r_move rfl) rfl rfl rfl rfl fun a6 H6 => ?_
  clear H5 a5
  refine wl1 H6 (r_len Try.underlying48 rfl) rfl rfl rfl rfl fun a7 H7 => ?_
  clear H6 a6
  refine wl1 H7 (r_lss rfl rfl) rfl rfl rfl rfl fun a8 H8 => ?_
  clear H7 a7
  refine wl_end ?_
  refine th_n ?_
  first | refine w_if H8 rfl (fun hc10 => ?_) (fun hc10 => ?_) | refine w_cond H8 rfl (fun hc10 => ?_) (fun hc10 => ?_)
  ·
    try simp only [decide_eq_true_eq, decide_eq_false_iff_not, Bool.or_eq_true, Bool.and_eq_true, Bool.or_eq_false_iff, Bool.and_eq_false_iff, Bool.not_eq_true', Bool.not_eq_false', Int.not_lt, Int.not_le, ne_eq, Decidable.not_not] at hc10
    obtain ⟨bA, oA, rfl⟩ := hA.form (by omega)
    refine wpIn_skip ?_
    refine th_n ?_
    refine wpIn_seq ?_
    refine wpIn_block ?_
    refine wpIn_seq ?_
    refine w_reg ?_
    refine wl1 H8 (r_assign rfl) rfl rfl rfl rfl fun a9 H9 => ?_
    clear H8 a8
    refine wl_end ?_
    refine th_n ?_
    refine wpIn_seq ?_
    refine wpIn_seq ?_
    refine w_reg ?_
    refine wl1 H9 (r_assign rfl) rfl rfl rfl rfl fun a10 H10 => ?_
    clear H9 a9
    refine wl_end ?_
    refine th_n ?_
    refine wpIn_block ?_
    refine w_loop (ι := Nat) (fun k => [(6, .int .i64 (k : Int)), (5, .int .u64 (leSum ((l.drop i).take k)))]) (fun k W => New I w I W ∧ (k ≤ 8 ∧ i + k ≤ l.length)) (fun k => 8 - k) (l0 := [(0, _), (2, _), (3, _), (4, _)]) 0 H10 ⟨rfl, rfl, rfl, rfl, rfl, rfl, trivial⟩ ⟨hN, Nat.zero_le _, by omega⟩ ?_
    rintro k a11 w2 H11 ⟨hN, hk, hik⟩
    clear H10 a10
    simp only [List.cons_append, List.nil_append] at H11
    refine wpIn_seq ?_
    refine wpIn_seq ?_
    refine w_reg ?_
    refine wl1 H11 (r_move rfl) rfl rfl rfl rfl fun a12 H12 => ?_
    clear H11 a11
    refine wl1 H12 (r_lss rfl rfl) rfl rfl rfl rfl fun a13 H13 => ?_
    clear H12 a12
    refine wl1 H13 (r_move rfl) rfl rfl rfl rfl fun a14 H14 => ?_
    clear H13 a13
    refine wl_split (t := 15) H14 rfl (fun hg7_2 H15 => ?_) (fun hg7_2 H15 => ?_)
    ·
      clear H14
      try simp only [decide_eq_true_eq, decide_eq_false_iff_not, Bool.or_eq_true, Bool.and_eq_true, Bool.or_eq_false_iff, Bool.and_eq_false_iff, Bool.not_eq_true', Bool.not_eq_false', Int.not_lt, Int.not_le, ne_eq, Decidable.not_not] at hg7_2
      refine wl_on (d := 15) H15 rfl rfl rfl ?_
      refine wl1 H15 (r_move rfl) rfl rfl rfl rfl fun a15 H16 => ?_
      clear H15 a14
      refine wl_on (d := 15) H16 rfl rfl rfl ?_
      refine wl1 H16 (r_move rfl) rfl rfl rfl rfl fun a16 H17 => ?_
      clear H16 a15
      refine wl_on (d := 15) H17 rfl rfl rfl ?_
      first | refine wl1 H17 (r_addk rfl rfl (by simp only [InK]; omega)) rfl rfl rfl rfl fun a17 H18 => ?_ | refine wl1 H17 (r_add rfl rfl) rfl rfl rfl rfl fun a17 H18 => ?_
      clear H17 a16
      refine wl_on (d := 15) H18 rfl rfl rfl ?_
      refine wl1 H18 (r_move rfl) rfl rfl rfl rfl fun a18 H19 => ?_
      clear H18 a17
      refine wl_on (d := 15) H19 rfl rfl rfl ?_
      refine wl1 H19 (r_len Try.underlying48 rfl) rfl rfl rfl rfl fun a19 H20 => ?_
      clear H19 a18
      refine wl_on (d := 15) H20 rfl rfl rfl ?_
      refine wl1 H20 (r_lss rfl rfl) rfl rfl rfl rfl fun a20 H21 => ?_
      clear H20 a19
      refine wl1 H21 (r_pick_t rfl rfl) rfl rfl rfl rfl fun a21 H22 => ?_
      clear H21 a20
      refine wl_end ?_
      refine th_n ?_
      first | refine w_if H22 rfl (fun hc22 => ?_) (fun hc22 => ?_) | refine w_cond H22 rfl (fun hc22 => ?_) (fun hc22 => ?_)
      ·
        try simp only [decide_eq_true_eq, decide_eq_false_iff_not, Bool.or_eq_true, Bool.and_eq_true, Bool.or_eq_false_iff, Bool.and_eq_false_iff, Bool.not_eq_true', Bool.not_eq_false', Int.not_lt, Int.not_le, ne_eq, Decidable.not_not] at hc22
        refine wpIn_skip ?_
        refine th_n ?_
        refine wpIn_seq ?_
        refine wpIn_block ?_
        refine w_reg ?_
        refine wl1 H22 (r_move rfl) rfl rfl rfl rfl fun a22 H23 => ?_
        clear H22 a21
        refine wl1 H23 (r_move rfl) rfl rfl rfl rfl fun a23 H24 => ?_
        clear H23 a22
        refine wl1 H24 (r_move rfl) rfl rfl rfl rfl fun a24 H25 => ?_
        clear H24 a23
        refine wl1 H25 (r_move rfl) rfl rfl rfl rfl fun a25 H26 => ?_
        clear H25 a24
        first | refine wl1 H26 (r_addk rfl rfl (by simp only [InK]; omega)) rfl rfl rfl rfl fun a26 H27 => ?_ | refine wl1 H26 (r_add rfl rfl) rfl rfl rfl rfl fun a26 H27 => ?_
        clear H26 a25
        refine wl1 H27 (r_idx Try.underlying48 sz5 rfl rfl (i := (i + k)) (by omega) (by omega)) rfl rfl rfl rfl fun a27 H28 => ?_
        clear H27 a26
        refine wl1 H28 (r_load sc5 rfl (hN.sat.cell (hA.num (j := i + k) (by omega)).1)) rfl rfl rfl rfl fun a28 H29 => ?_
        clear H28 a27
        have hb8 := (hA.num (j := i + k) (by omega)).2
        simp only [InK] at hb8
        first | refine wl1 H29 (r_convk Try.underlying5 Try.underlying33 rfl (by simp only [InK]; omega)) rfl rfl rfl rfl fun a29 H30 => ?_ | refine wl1 H29 (r_conv Try.underlying5 Try.underlying33 rfl) rfl rfl rfl rfl fun a29 H30 => ?_
        clear H29 a28
        refine wl1 H30 (r_move rfl) rfl rfl rfl rfl fun a30 H31 => ?_
        clear H30 a29
        first | refine wl1 H31 (r_mulk rfl rfl (by simp only [InK]; omega)) rfl rfl rfl rfl fun a31 H32 => ?_ | refine wl1 H31 (r_mul rfl rfl) rfl rfl rfl rfl fun a31 H32 => ?_
        clear H31 a30
        first | refine wl1 H32 (r_convk Try.underlying3 Try.underlying31 rfl (by simp only [InK]; omega)) rfl rfl rfl rfl fun a32 H33 => ?_ | refine wl1 H32 (r_conv Try.underlying3 Try.underlying31 rfl) rfl rfl rfl rfl fun a32 H33 => ?_
        clear H32 a31
        refine wl1 H33 (r_shl rfl rfl (by omega)) rfl rfl rfl rfl fun a33 H34 => ?_
        clear H33 a32
        refine wl1 H34 (r_or rfl rfl) rfl rfl rfl rfl fun a34 H35 => ?_
        clear H34 a33
        rw [show ibits .or .u64 (leSum ((l.drop i).take k)) (IntKind.u64.wrap (l[i + k] * 2 ^ min (8 * (k : Int)).toNat IntKind.u64.bits)) = leSum ((l.drop i).take (k + 1)) from leSum_step hIB (by omega) (by omega)] at H35
        refine wl1 H35 (r_assign rfl) rfl rfl rfl rfl fun a35 H36 => ?_
        clear H35 a34
        refine wl_end ?_
        refine bl_n ?_
        refine th_n ?_
        refine w_reg ?_
        refine wl1 H36 (r_move rfl) rfl rfl rfl rfl fun a36 H37 => ?_
        clear H36 a35
        first | refine wl1 H37 (r_addk rfl rfl (by simp only [InK]; omega)) rfl rfl rfl rfl fun a37 H38 => ?_ | refine wl1 H37 (r_add rfl rfl) rfl rfl rfl rfl fun a37 H38 => ?_
        clear H37 a36
        refine wl1 H38 (r_assign rfl) rfl rfl rfl rfl fun a38 H39 => ?_
        clear H38 a37
        refine wl_end ?_
        exact th_n ⟨k + 1, (by omega), H39.sub ⟨rfl, rfl, rfl, rfl, rfl, rfl, trivial⟩, hN, by omega, by omega⟩
      ·
        try simp only [decide_eq_true_eq, decide_eq_false_iff_not, Bool.or_eq_true, Bool.and_eq_true, Bool.or_eq_false_iff, Bool.and_eq_false_iff, Bool.not_eq_true', Bool.not_eq_false', Int.not_lt, Int.not_le, ne_eq, Decidable.not_not] at hc22
        have htk : (l.drop i).take k = (l.drop i).take 8 := by rw [List.take_of_length_le (by simp; omega), List.take_of_length_le (by simp; omega)]
        rw [htk] at H22
        refine wpIn_exit ?_
        refine th_x ?_
        refine th_x ?_
        refine bl_hit ?_
        refine th_n ?_
        refine w_reg ?_
        refine wl1 H22 (r_move rfl) rfl rfl rfl rfl fun a22 H40 => ?_
        clear H22 a21
        refine wl1 H40 (r_move rfl) rfl rfl rfl rfl fun a23 H41 => ?_
        clear H40 a22
        refine wlc  H41 rfl rfl hb28 rfl (br_step hN.sat) fun v w3 hR a24 H42 => ?_
        clear H41 a23
        obtain ⟨rfl, gw3⟩ := hR
        have hN := hN.ofGr gw3
        rw [← dfold_snoc] at H42
        refine wl1 H42 (r_assign rfl) rfl rfl rfl rfl fun a25 H43 => ?_
        clear H42 a24
        refine wl_end ?_
        refine bl_n ?_
        refine th_n ?_
        refine w_reg ?_
        refine wl1 H43 (r_move rfl) rfl rfl rfl rfl fun a26 H44 => ?_
        clear H43 a25
        first | refine wl1 H44 (r_addk rfl rfl (by simp only [InK]; omega)) rfl rfl rfl rfl fun a27 H45 => ?_ | refine wl1 H44 (r_add rfl rfl) rfl rfl rfl rfl fun a27 H45 => ?_
        clear H44 a26
        refine wl1 H45 (r_assign rfl) rfl rfl rfl rfl fun a28 H46 => ?_
        clear H45 a27
        refine wl_end ?_
        exact th_n ⟨(i + 8, ws ++ [leSum ((l.drop i).take 8)]), (by show l.length - (i + 8) < l.length - i; omega), H46.sub ⟨rfl, rfl, rfl, rfl, trivial⟩, hN, by show i + 8 ≤ _; omega, by show _ = (ws ++ [leSum ((l.drop i).take 8)]) ++ dgroups (l.drop (i + 8)); rw [hws, dgroups_cons (by simp; omega), List.append_assoc, List.drop_drop]; rfl⟩
    ·
      clear H14
      try simp only [decide_eq_true_eq, decide_eq_false_iff_not, Bool.or_eq_true, Bool.and_eq_true, Bool.or_eq_false_iff, Bool.and_eq_false_iff, Bool.not_eq_true', Bool.not_eq_false', Int.not_lt, Int.not_le, ne_eq, Decidable.not_not] at hg7_2
      have htk : k = 8 := by omega
      rw [htk] at H15
      refine wl_off (d := 15) H15 rfl rfl rfl rfl rfl rfl fun a15 H47 => ?_
      clear H15 a14
      refine wl_off (d := 15) H47 rfl rfl rfl rfl rfl rfl fun a16 H48 => ?_
      clear H47 a15
      refine wl_off (d := 15) H48 rfl rfl rfl rfl rfl rfl fun a17 H49 => ?_
      clear H48 a16
      refine wl_off (d := 15) H49 rfl rfl rfl rfl rfl rfl fun a18 H50 => ?_
      clear H49 a17
      refine wl_off (d := 15) H50 rfl rfl rfl rfl rfl rfl fun a19 H51 => ?_
      clear H50 a18
      refine wl_off (d := 15) H51 rfl rfl rfl rfl rfl rfl fun a20 H52 => ?_
      clear H51 a19
      refine wl1 H52 (r_pick_f rfl rfl) rfl rfl rfl rfl fun a21 H53 => ?_
      clear H52 a20
      refine wl_end ?_
      refine th_n ?_
      refine w_ff H53 rfl rfl ?_
      refine wpIn_exit ?_
      refine th_x ?_
      refine th_x ?_
      refine bl_hit ?_
      refine th_n ?_
      refine w_reg ?_
      refine wl1 H53 (r_move rfl) rfl rfl rfl rfl fun a22 H54 => ?_
      clear H53 a21
      refine wl1 H54 (r_move rfl) rfl rfl rfl rfl fun a23 H55 => ?_
      clear H54 a22
      refine wlc  H55 rfl rfl hb28 rfl (br_step hN.sat) fun v w4 hR a24 H56 => ?_
      clear H55 a23
      obtain ⟨rfl, gw4⟩ := hR
      have hN := hN.ofGr gw4
      rw [← dfold_snoc] at H56
      refine wl1 H56 (r_assign rfl) rfl rfl rfl rfl fun a25 H57 => ?_
      clear H56 a24
      refine wl_end ?_
      refine bl_n ?_
      refine th_n ?_
      refine w_reg ?_
      refine wl1 H57 (r_move rfl) rfl rfl rfl rfl fun a26 H58 => ?_
      clear H57 a25
      first | refine wl1 H58 (r_addk rfl rfl (by simp only [InK]; omega)) rfl rfl rfl rfl fun a27 H59 => ?_ | refine wl1 H58 (r_add rfl rfl) rfl rfl rfl rfl fun a27 H59 => ?_
      clear H58 a26
      refine wl1 H59 (r_assign rfl) rfl rfl rfl rfl fun a28 H60 => ?_
      clear H59 a27
      refine wl_end ?_
      exact th_n ⟨(i + 8, ws ++ [leSum ((l.drop i).take 8)]), (by show l.length - (i + 8) < l.length - i; omega), H60.sub ⟨rfl, rfl, rfl, rfl, trivial⟩, hN, by show i + 8 ≤ _; omega, by show _ = (ws ++ [leSum ((l.drop i).take 8)]) ++ dgroups (l.drop (i + 8)); rw [hws, dgroups_cons (by simp; omega), List.append_assoc, List.drop_drop]; rfl⟩
  ·
    try simp only [decide_eq_true_eq, decide_eq_false_iff_not, Bool.or_eq_true, Bool.and_eq_true, Bool.or_eq_false_iff, Bool.and_eq_false_iff, Bool.not_eq_true', Bool.not_eq_false', Int.not_lt, Int.not_le, ne_eq, Decidable.not_not] at hc10
    have hdr : l.drop i = [] := List.drop_eq_nil_of_le (by omega)
    rw [hdr, dgroups_nil, List.append_nil] at hws
    refine wpIn_exit ?_
    refine th_x ?_
    refine th_x ?_
    refine bl_hit ?_
    refine th_n ?_
    refine wpIn_seq ?_
    refine w_reg ?_
    refine wl1 H8 (r_move rfl) rfl rfl rfl rfl fun a9 H61 => ?_
    clear H8 a8
    refine wl1 H61 (r_move rfl) rfl rfl rfl rfl fun a10 H62 => ?_
    clear H61 a9
    refine wl1 H62 (r_len Try.underlying48 rfl) rfl rfl rfl rfl fun a11 H63 => ?_
    clear H62 a10
    refine wl1 H63 (r_convk Try.underlying3 Try.underlying33 rfl (by simp only [InK]; omega)) rfl rfl rfl rfl fun a12 H64 => ?_
    clear H63 a11
    refine wlc  H64 rfl rfl hb28 rfl (br_step hN.sat) fun v w5 hR a13 H65 => ?_
    clear H64 a12
    obtain ⟨rfl, gw5⟩ := hR
    have hN := hN.ofGr gw5
    refine wl1 H65 (r_assign rfl) rfl rfl rfl rfl fun a14 H66 => ?_
    clear H65 a13
    refine wl_end ?_
    refine th_n ?_
    refine wpIn_ret ?_
    refine fin_r H66 (res1 rfl H66 rfl) ?_
    exact ⟨by rw [← hws]; rfl, hN.gr⟩
set_option maxRecDepth 100000 in
set_option maxHeartbeats 400000 in
theorem rlevel {A : Option Addr} {l : List Int} {c : Nat} {I : Im} {w : World} (hS : Sat I w) (hA : Els (kInt .u64) I A l) (hl : l.length ≤ 1048576) :
    Ret Try.prog 34 [.slice A l.length c] w (Fresh (kInt .u64) I w (dlevel l)) := by
  refine ret_of (N := 38) Try.func34 rfl rfl rfl fun a0 H0 => ?_
  have hN := New.refl hS
  simp only [argsEnv, Nat.zero_add, Nat.reduceAdd] at H0
  refine wpIn_seq ?_
  refine w_reg ?_
  refine wl1 H0 (r_assign rfl) rfl rfl rfl rfl fun a1 H1 => ?_
  clear H0 a0
  refine wl_end ?_
  refine th_n ?_
  refine wpIn_seq ?_
  refine w_reg ?_
  refine s_lit1 (cs := []) H1 Try.underlying22 sz33 zv33 rfl rfl rfl (by simp [Value.oneCell']) rfl hN fun w1 l5 K1 hKl5 hlel5 hN nw1 hgel5 a2 H2 => ?_
  clear H1 a1
  replace hA := hA.up nw1.le
  refine wl1 H2 (r_assign rfl) rfl rfl rfl rfl fun a3 H3 => ?_
  clear H2 a2
  refine wl_end ?_
  refine th_n ?_
  refine wpIn_seq ?_
  refine wpIn_seq ?_
  refine w_reg ?_
  refine wl1 H3 (r_assign rfl) rfl rfl rfl rfl fun a4 H4 => ?_
  clear H3 a3
  refine wl_end ?_
  refine th_n ?_
  refine wpIn_block ?_
  refine w_loop (ι := (Nat × List Int × Value) × Im) (fun xJ => (fun x => [(4, .int .i64 (x.1 : Int)), (3, x.2.2)]) xJ.1) (fun xJ W => Im.le K1 xJ.2 ∧ New I w xJ.2 W ∧ (fun x (J : Im) => x.1 ≤ l.length + 1 ∧ dlevel l = x.2.1 ++ dlevel (l.drop x.1) ∧ x.2.1.length ≤ x.1 ∧ Apx (kInt .u64) J W w.heap.size 33 x.2.2 x.2.1) xJ.1 xJ.2) (fun xJ => (fun x => l.length + 1 - x.1) xJ.1) (l0 := [(0, _), (2, _)]) ((0, [], _), K1) H4 ⟨rfl, rfl, rfl, rfl, trivial⟩ ⟨Im.le.refl _, hN, Nat.zero_le _, by simp, Nat.le_refl _, .inr ⟨_, rfl, Els.nil _ _ _⟩⟩ ?_
  rintro ⟨⟨i, out, u⟩, J2⟩ a5 w2 H5 ⟨hleJ1, hN, hi, hdl, hol, hO⟩
  clear H4 a4
  simp only [List.cons_append, List.nil_append] at H5
  try dsimp only at hleJ1
  try dsimp only at hN
  replace hA := hA.up hleJ1
  simp only at hi hdl hol hO H5
  try dsimp only at hO
  try dsimp only at hdl
  try dsimp only at hi
  try dsimp only at hol
  refine wpIn_seq ?_
  refine wpIn_seq ?_
  refine w_reg ?_
  refine wl1 H5 (r_move rfl) rfl rfl rfl rfl fun a6 H6 => ?_
  clear H5 a5
  refine wl1 H6 (r_move rfl) rfl rfl rfl rfl fun a7 H7 => ?_
  clear H6 a6
  refine wl1 H7 (r_len Try.underlying22 rfl) rfl rfl rfl rfl fun a8 H8 => ?_
  clear H7 a7
  refine wl1 H8 (r_lss rfl rfl) rfl rfl rfl rfl fun a9 H9 => ?_
  clear H8 a8
  refine wl_end ?_
  refine th_n ?_
  first | refine w_if H9 rfl (fun hc9 => ?_) (fun hc9 => ?_) | refine w_cond H9 rfl (fun hc9 => ?_) (fun hc9 => ?_)
  ·
    try simp only [decide_eq_true_eq, decide_eq_false_iff_not, Bool.or_eq_true, Bool.and_eq_true, Bool.or_eq_false_iff, Bool.and_eq_false_iff, Bool.not_eq_true', Bool.not_eq_false', Int.not_lt, Int.not_le, ne_eq, Decidable.not_not] at hc9
    obtain ⟨bA, oA, rfl⟩ := hA.form (by omega)
    have hil : i < l.length := by omega
    refine wpIn_skip ?_
    refine th_n ?_
    refine wpIn_seq ?_
    refine wpIn_block ?_
    refine wpIn_seq ?_
    refine w_reg ?_
    refine wl1 H9 (r_move rfl) rfl rfl rfl rfl fun a10 H10 => ?_
    clear H9 a9
    first | refine wl1 H10 (r_addk rfl rfl (by simp only [InK]; omega)) rfl rfl rfl rfl fun a11 H11 => ?_ | refine wl1 H10 (r_add rfl rfl) rfl rfl rfl rfl fun a11 H11 => ?_
    clear H10 a10
    refine wl1 H11 (r_move rfl) rfl rfl rfl rfl fun a12 H12 => ?_
    clear H11 a11
    refine wl1 H12 (r_len Try.underlying22 rfl) rfl rfl rfl rfl fun a13 H13 => ?_
    clear H12 a12
    refine wl1 H13 (r_lss rfl rfl) rfl rfl rfl rfl fun a14 H14 => ?_
    clear H13 a13
    refine wl_end ?_
    refine th_n ?_
    first | refine w_if H14 rfl (fun hc16 => ?_) (fun hc16 => ?_) | refine w_cond H14 rfl (fun hc16 => ?_) (fun hc16 => ?_)
    ·
      try simp only [decide_eq_true_eq, decide_eq_false_iff_not, Bool.or_eq_true, Bool.and_eq_true, Bool.or_eq_false_iff, Bool.and_eq_false_iff, Bool.not_eq_true', Bool.not_eq_false', Int.not_lt, Int.not_le, ne_eq, Decidable.not_not] at hc16
      have hil2 : i + 1 < l.length := by omega
      have hS0 := hN.sat
      have hNsz6 := hN.gr.size
      refine w_drawE (m := 12) (l0 := [(0, _), (2, _), (3, _), (4, _)]) hfol H14 ⟨rfl, rfl, rfl, rfl, trivial⟩ (by kernel_rfl) ?_
      refine ⟨_, false, (fun σ ι w1 hg hd hon => by
          exact OpOK.sub (r := [(0, _), (2, _), (3, _), (4, _)]) ⟨rfl, rfl, rfl, rfl, trivial⟩ (by
            exact OpOK.eq (r_move rfl))
          ), (fun _ _ _ _ _ _ h => h), (FreeR.no _), ?_⟩
      refine ⟨_, false, (fun σ ι w1 hg hd hon => by
          exact OpOK.sub (r := [(0, _), (2, _), (3, _), (4, _)]) ⟨rfl, rfl, rfl, rfl, trivial⟩ (by
            exact OpOK.eq (r_move rfl))
          ), (fun _ _ _ _ _ _ h => h), (FreeR.no _), ?_⟩
      refine ⟨_, false, (fun σ ι w1 hg hd hon => by
          exact OpOK.sub (r := [(0, _), (2, _), (3, _), (4, _)]) ⟨rfl, rfl, rfl, rfl, trivial⟩ (by
            exact OpOK.eq (r_move rfl))
          ), (fun _ _ _ _ _ _ h => h), (FreeR.no _), ?_⟩
      refine ⟨_, false, (fun σ ι w1 hg hd hon => by
          have f1 := hd 1 (by decide) _ rfl
          have f2 := hd 2 (by decide) _ rfl
          have e1 : σ 1 = _ := f1.1 trivial
          have e2 : σ 2 = _ := f2.1 trivial
          exact OpOK.sub (r := [(18, _), (19, _), (0, _), (2, _), (3, _), (4, _)]) ⟨congrArg some e1, congrArg some e2, rfl, rfl, rfl, rfl, trivial⟩ (by
            exact OpOK.eq (r_idx Try.underlying22 sz33 rfl rfl (i := i) rfl (by omega)))
          ), (fun _ _ _ _ _ _ h => h), (FreeR.no _), ?_⟩
      refine ⟨_, false, (fun σ ι w1 hg hd hon => by
          have hN := hN.ofGr ((Gr.refl _).drew.trans hg)
          have hO := hO.gr ((Gr.refl _).drew.trans hg)
          have f3 := hd 3 (by decide) _ rfl
          have e3 : σ 3 = _ := f3.1 trivial
          exact OpOK.sub (r := [(20, _), (0, _), (2, _), (3, _), (4, _)]) ⟨congrArg some e3, rfl, rfl, rfl, rfl, trivial⟩ (by
            exact OpOK.eq (r_load sc33 rfl (hN.sat.cell (hA.num (j := i) hil).1)))
          ), (fun _ _ _ _ _ _ h => h), (FreeR.no _), ?_⟩
      refine ⟨_, false, (fun σ ι w1 hg hd hon => by
          exact OpOK.sub (r := [(0, _), (2, _), (3, _), (4, _)]) ⟨rfl, rfl, rfl, rfl, trivial⟩ (by
            exact OpOK.eq (r_move rfl))
          ), (fun _ _ _ _ _ _ h => h), (FreeR.no _), ?_⟩
      refine ⟨_, false, (fun σ ι w1 hg hd hon => by
          exact OpOK.sub (r := [(0, _), (2, _), (3, _), (4, _)]) ⟨rfl, rfl, rfl, rfl, trivial⟩ (by
            exact OpOK.eq (r_move rfl))
          ), (fun _ _ _ _ _ _ h => h), (FreeR.no _), ?_⟩
      refine ⟨_, false, (fun σ ι w1 hg hd hon => by
          have f6 := hd 6 (by decide) _ rfl
          have e6 : σ 6 = _ := f6.1 trivial
          exact OpOK.sub (r := [(23, _), (0, _), (2, _), (3, _), (4, _)]) ⟨congrArg some e6, rfl, rfl, rfl, rfl, trivial⟩ (by
            first | exact OpOK.eq (r_addk rfl rfl (by simp only [InK]; omega)) | exact OpOK.eq (r_add rfl rfl))
          ), (fun _ _ _ _ _ _ h => h), (FreeR.no _), ?_⟩
      refine ⟨_, false, (fun σ ι w1 hg hd hon => by
          have f5 := hd 5 (by decide) _ rfl
          have f7 := hd 7 (by decide) _ rfl
          have e5 : σ 5 = _ := f5.1 trivial
          have e7 : σ 7 = _ := f7.1 trivial
          exact OpOK.sub (r := [(22, _), (24, _), (0, _), (2, _), (3, _), (4, _)]) ⟨congrArg some e5, congrArg some e7, rfl, rfl, rfl, rfl, trivial⟩ (by
            exact OpOK.eq (r_idx Try.underlying22 sz33 rfl rfl (i := (i + 1)) (by omega) (by omega)))
          ), (fun _ _ _ _ _ _ h => h), (FreeR.no _), ?_⟩
      refine ⟨_, false, (fun σ ι w1 hg hd hon => by
          have hN := hN.ofGr ((Gr.refl _).drew.trans hg)
          have hO := hO.gr ((Gr.refl _).drew.trans hg)
          have f8 := hd 8 (by decide) _ rfl
          have e8 : σ 8 = _ := f8.1 trivial
          exact OpOK.sub (r := [(25, _), (0, _), (2, _), (3, _), (4, _)]) ⟨congrArg some e8, rfl, rfl, rfl, rfl, trivial⟩ (by
            exact OpOK.eq (r_load sc33 rfl (hN.sat.cell (hA.num (j := i + 1) hil2).1)))
          ), (fun _ _ _ _ _ _ h => h), (FreeR.no _), ?_⟩
      refine ⟨_, true, (fun σ ι w1 hg hd hon => by
          have hN := hN.ofGr ((Gr.refl _).drew.trans hg)
          have hO := hO.gr ((Gr.refl _).drew.trans hg)
          have f4 := hd 4 (by decide) _ rfl
          have f9 := hd 9 (by decide) _ rfl
          have e4 : σ 4 = _ := f4.1 trivial
          have e9 : σ 9 = _ := f9.1 trivial
          skip
          exact CallOK.sub (r := [(21, _), (26, _), (0, _), (2, _), (3, _), (4, _)]) ⟨congrArg some e4, congrArg some e9, rfl, rfl, rfl, rfl, trivial⟩ (by
            exact CallOK.V (enters_of rfl rfl hb22) (br_rjoin hN.sat))
          ), (fun _ _ _ _ _ _ h => h), (fun _ _ _ _ _ _ h => h), ?_⟩
      refine ⟨_, false, (fun σ ι w1 hg hd hon => by
          have hN := hN.ofGr ((Gr.refl _).drew.trans hg)
          have hO := hO.gr ((Gr.refl _).drew.trans hg)
          have f10 := hd 10 (by decide) _ rfl
          have e10 : σ 10 = _ := f10.1 trivial
          exact OpOK.sub (r := [(27, _), (0, _), (2, _), (3, _), (4, _)]) ⟨congrArg some e10, rfl, rfl, rfl, rfl, trivial⟩ (by exact OpOK.litM (dk := kInt .u64) (J := J2) (xs := [djoin (l[i]'hil) (l[i + 1]'hil2)]) (cs := [.int .u64 (djoin (l[i]'hil) (l[i + 1]'hil2))]) Try.underlying22 sz33 zv33 (by rfl) (by rfl) (by rfl) (by simp [Value.oneCell']) hN.sat (Row.nums (q := .u64) (xs := [djoin (l[i]'hil) (l[i + 1]'hil2)]) (by simp only [List.mem_singleton]; rintro y rfl; exact InK_of_U (djoin_U _ _))) (by simp))
          ), (by exact monoOwn (J := J2) (Φ := fun _ K u => ∃ b, u = .slice (some ⟨b, 0, none⟩) 1 1 ∧ Els (kInt .u64) K (some ⟨b, 0, none⟩) ([djoin (l[i]'hil) (l[i + 1]'hil2)]))), (FreeR.no _), ?_⟩
      intro σ ι a15 w4 hgw4 H15 hd hap
      skip
      have hN0 := hN
      have hN := hN.ofGr ((Gr.refl _).drew.trans hgw4)
      have hNd := (New.refl (hS0.drewS)).ofGr hgw4
      obtain ⟨K11, hP11, b28, e11, hE28⟩ := (hd 11 (by decide) _ rfl).1 trivial
      replace hE28 := hE28.up (joinI_right hNd.sat hP11.sat)
      replace hNd := hNd.part hNd.le hP11 (hap.1 11 (by decide)).1
      replace hO := (hO.gr (Gr.refl _).drew).next hNd
      replace hA := hA.up hNd.le
      replace hleJ1 := hleJ1.trans hNd.le
      have hN := hN0.drew.trans hNd
      have e0 : σ 0 = _ := (hd 0 (by decide) _ rfl).1 trivial
      replace H15 := H15.sub (r := [(17, _), (28, _), (0, _), (2, _), (3, _), (4, _)]) ⟨congrArg some e0, congrArg some e11, rfl, rfl, rfl, rfl, trivial⟩
      clear hd
      clear hap
      refine s_app (B := w.heap.size) H15 rfl rfl Try.underlying22 nf33 rfl (by decide) (by decide) rfl hN hO hE28 rfl (Nat.le_refl _) hN.gr.size (by omega) fun vw5 w5 hO hOO hOO2 kw5 hN a16 H16 => ?_
      clear H15 a15
      refine wl1 H16 (r_assign rfl) rfl rfl rfl rfl fun a17 H17 => ?_
      clear H16 a16
      refine wl_end ?_
      refine bl_n ?_
      refine th_n ?_
      refine w_reg ?_
      refine wl1 H17 (r_move rfl) rfl rfl rfl rfl fun a18 H18 => ?_
      clear H17 a17
      first | refine wl1 H18 (r_addk rfl rfl (by simp only [InK]; omega)) rfl rfl rfl rfl fun a19 H19 => ?_ | refine wl1 H18 (r_add rfl rfl) rfl rfl rfl rfl fun a19 H19 => ?_
      clear H18 a18
      refine wl1 H19 (r_assign rfl) rfl rfl rfl rfl fun a20 H20 => ?_
      clear H19 a19
      refine wl_end ?_
      exact th_n ⟨((i + 2, out ++ [djoin l[i] l[i + 1]], _), (joinI J2 K11)), (by show l.length + 1 - (i + 2) < l.length + 1 - i; omega), H20.sub ⟨rfl, rfl, rfl, rfl, trivial⟩, hleJ1, hN, by show i + 2 ≤ _; omega, by show dlevel l = (out ++ [djoin l[i] l[i + 1]]) ++ dlevel (l.drop (i + 2)); rw [hdl, List.drop_eq_getElem_cons (show i < l.length by omega), List.drop_eq_getElem_cons (show i + 1 < l.length by omega)]; simp [dlevel], by show (out ++ [djoin l[i] l[i + 1]]).length ≤ i + 2; simp; omega, hO⟩
    ·
      try simp only [decide_eq_true_eq, decide_eq_false_iff_not, Bool.or_eq_true, Bool.and_eq_true, Bool.or_eq_false_iff, Bool.and_eq_false_iff, Bool.not_eq_true', Bool.not_eq_false', Int.not_lt, Int.not_le, ne_eq, Decidable.not_not] at hc16
      refine w_reg ?_
      refine wl1 H14 (r_move rfl) rfl rfl rfl rfl fun a15 H21 => ?_
      clear H14 a14
      refine wl1 H21 (r_move rfl) rfl rfl rfl rfl fun a16 H22 => ?_
      clear H21 a15
      refine wl1 H22 (r_move rfl) rfl rfl rfl rfl fun a17 H23 => ?_
      clear H22 a16
      refine wl1 H23 (r_idx Try.underlying22 sz33 rfl rfl (i := i) rfl (by omega)) rfl rfl rfl rfl fun a18 H24 => ?_
      clear H23 a17
      refine wl1 H24 (r_load sc33 rfl (hN.sat.cell (hA.num (j := i) hil).1)) rfl rfl rfl rfl fun a19 H25 => ?_
      clear H24 a18
      refine s_lit1 (cs := [_]) H25 Try.underlying22 sz33 zv33 rfl rfl rfl (by simp [Value.oneCell']) rfl hN fun w6 l35 K6 hKl35 hlel35 hN nw6 hgel35 a20 H26 => ?_
      clear H25 a19
      replace hA := hA.up nw6.le
      replace hO := hO.next nw6
      replace hleJ1 := hleJ1.trans nw6.le
      have hE35 : Els (kInt .u64) K6 (some ⟨l35, 0, none⟩) [l[i]] := Els.nums hKl35 (by simp) (by simp only [List.mem_singleton]; rintro y rfl; exact (hA.num (j := i) hil).2)
      refine s_app (B := w.heap.size) H26 rfl rfl Try.underlying22 nf33 rfl (by decide) (by decide) rfl hN hO hE35 rfl (Nat.le_refl _) hN.gr.size (by omega) fun vw7 w7 hO hOO hOO2 kw7 hN a21 H27 => ?_
      clear H26 a20
      refine wl1 H27 (r_assign rfl) rfl rfl rfl rfl fun a22 H28 => ?_
      clear H27 a21
      refine wl_end ?_
      refine bl_n ?_
      refine th_n ?_
      refine w_reg ?_
      refine wl1 H28 (r_move rfl) rfl rfl rfl rfl fun a23 H29 => ?_
      clear H28 a22
      first | refine wl1 H29 (r_addk rfl rfl (by simp only [InK]; omega)) rfl rfl rfl rfl fun a24 H30 => ?_ | refine wl1 H29 (r_add rfl rfl) rfl rfl rfl rfl fun a24 H30 => ?_
      clear H29 a23
      refine wl1 H30 (r_assign rfl) rfl rfl rfl rfl fun a25 H31 => ?_
      clear H30 a24
      refine wl_end ?_
      exact th_n ⟨((i + 2, out ++ [l[i]], _), K6), (by show l.length + 1 - (i + 2) < l.length + 1 - i; omega), H31.sub ⟨rfl, rfl, rfl, rfl, trivial⟩, hleJ1, hN, by show i + 2 ≤ _; omega, by show dlevel l = (out ++ [l[i]]) ++ dlevel (l.drop (i + 2)); rw [hdl, List.drop_eq_getElem_cons (show i < l.length by omega), List.drop_eq_nil_of_le (show l.length ≤ i + 1 by omega), List.drop_eq_nil_of_le (show l.length ≤ i + 2 by omega)]; simp [dlevel], by show (out ++ [l[i]]).length ≤ i + 2; simp; omega, hO⟩
  ·
    try simp only [decide_eq_true_eq, decide_eq_false_iff_not, Bool.or_eq_true, Bool.and_eq_true, Bool.or_eq_false_iff, Bool.and_eq_false_iff, Bool.not_eq_true', Bool.not_eq_false', Int.not_lt, Int.not_le, ne_eq, Decidable.not_not] at hc9
    refine wpIn_exit ?_
    refine th_x ?_
    refine th_x ?_
    refine bl_hit ?_
    refine th_n ?_
    refine wpIn_seq ?_
    refine w_reg ?_
    refine wl1 H9 (r_move rfl) rfl rfl rfl rfl fun a10 H32 => ?_
    clear H9 a9
    refine wl1 H32 (r_assign rfl) rfl rfl rfl rfl fun a11 H33 => ?_
    clear H32 a10
    refine wl_end ?_
    refine th_n ?_
    refine wpIn_ret ?_
    refine fin_r H33 (res1 rfl H33 rfl) ?_
    rw [List.drop_eq_nil_of_le (show l.length ≤ i by omega)] at hdl
    rw [show out = dlevel l by rw [hdl]; simp [dlevel]] at hO
    obtain ⟨K9, A9, c9, hK9, _, _, hv9, hc9, hE9⟩ := hO.freeze hN (Nat.le_refl _)
    exact ⟨K9, hK9, A9, c9, hv9, hc9, hE9⟩
set_option maxRecDepth 100000 in
set_option maxHeartbeats 400000 in
theorem rroot {A : Option Addr} {l : List Int} {c : Nat} {I : Im} {w : World} (hS : Sat I w) (hA : Els (kInt .u64) I A l) (hl : l.length ≤ 1048576) (hlc : l.length ≤ c) :
    Ret Try.prog 25 [.slice A l.length c] w (fun v w' => v = .int .u64 (droot l) ∧ Gr w w') := by
  refine ret_of (N := 16) Try.func25 rfl rfl rfl fun a0 H0 => ?_
  have hN := New.refl hS
  simp only [argsEnv, Nat.zero_add, Nat.reduceAdd] at H0
  refine wpIn_seq ?_
  refine w_reg ?_
  refine wl1 H0 (r_assign rfl) rfl rfl rfl rfl fun a1 H1 => ?_
  clear H0 a0
  refine wl_end ?_
  refine th_n ?_
  refine wpIn_seq ?_
  refine wpIn_seq ?_
  refine w_reg ?_
  refine wl1 H1 (r_move rfl) rfl rfl rfl rfl fun a2 H2 => ?_
  clear H1 a1
  refine wl1 H2 (r_len Try.underlying22 rfl) rfl rfl rfl rfl fun a3 H3 => ?_
  clear H2 a2
  refine wl1 H3 (r_eql rfl rfl) rfl rfl rfl rfl fun a4 H4 => ?_
  clear H3 a3
  refine wl_end ?_
  refine th_n ?_
  first | refine w_if H4 rfl (fun hc5 => ?_) (fun hc5 => ?_) | refine w_cond H4 rfl (fun hc5 => ?_) (fun hc5 => ?_)
  ·
    try simp only [decide_eq_true_eq, decide_eq_false_iff_not, Bool.or_eq_true, Bool.and_eq_true, Bool.or_eq_false_iff, Bool.and_eq_false_iff, Bool.not_eq_true', Bool.not_eq_false', Int.not_lt, Int.not_le, ne_eq, Decidable.not_not] at hc5
    refine wpIn_seq ?_
    refine w_reg ?_
    refine s_lit1 (cs := []) H4 Try.underlying47 sz3 zv3 rfl rfl rfl (by simp [Value.oneCell']) rfl hN fun w1 l6 K1 hKl6 hlel6 hN nw1 hgel6 a5 H5 => ?_
    clear H4 a4
    replace hA := hA.up nw1.le
    have hl0 : l = [] := List.eq_nil_of_length_eq_zero (by omega)
    refine wlc  H5 rfl rfl hb18 rfl (rwords (l := []) hN.sat (Els.nil _ _ _)) fun v w2 hR a6 H6 => ?_
    clear H5 a5
    obtain ⟨rfl, gw2⟩ := hR
    have hN := hN.ofGr gw2
    refine wl1 H6 (r_assign rfl) rfl rfl rfl rfl fun a7 H7 => ?_
    clear H6 a6
    refine wl_end ?_
    refine th_n ?_
    refine wpIn_ret ?_
    refine th_r ?_
    refine fin_r H7 (res1 rfl H7 rfl) ?_
    exact ⟨by rw [hl0, droot_nil], hN.gr⟩
  ·
    try simp only [decide_eq_true_eq, decide_eq_false_iff_not, Bool.or_eq_true, Bool.and_eq_true, Bool.or_eq_false_iff, Bool.and_eq_false_iff, Bool.not_eq_true', Bool.not_eq_false', Int.not_lt, Int.not_le, ne_eq, Decidable.not_not] at hc5
    refine wpIn_skip ?_
    refine th_n ?_
    refine wpIn_seq ?_
    refine wpIn_block ?_
    refine w_loop (ι := (List Int × Option Addr × Nat) × Im) (fun xJ => (fun x => [(0, .slice x.2.1 x.1.length x.2.2)]) xJ.1) (fun xJ W => Im.le I xJ.2 ∧ New I w xJ.2 W ∧ (fun x (J : Im) => 1 ≤ x.1.length ∧ x.1.length ≤ 1048576 ∧ droot x.1 = droot l ∧ Els (kInt .u64) J x.2.1 x.1) xJ.1 xJ.2) (fun xJ => (fun x => x.1.length) xJ.1) (l0 := [(2, _)]) ((l, A, c), I) H4 ⟨rfl, rfl, trivial⟩ ⟨Im.le.refl _, hN, by show 1 ≤ l.length; omega, hl, rfl, hA⟩ ?_
    rintro ⟨⟨cur, A1, c1⟩, J3⟩ a5 w3 H8 ⟨hleJ1, hN, hc1, hc2, hdr, hE1⟩
    clear H4 a4
    simp only [List.cons_append, List.nil_append] at H8
    try dsimp only at hleJ1
    try dsimp only at hN
    replace hA := hA.up hleJ1
    simp only at hc1 hc2 hdr hE1 H8
    have hcl := dlevel_len _ cur (Nat.le_refl _)
    try dsimp only at hE1
    try dsimp only at hc1
    try dsimp only at hc2
    try dsimp only at hdr
    refine wpIn_seq ?_
    refine wpIn_seq ?_
    refine w_reg ?_
    refine wl1 H8 (r_move rfl) rfl rfl rfl rfl fun a6 H9 => ?_
    clear H8 a5
    refine wl1 H9 (r_len Try.underlying22 rfl) rfl rfl rfl rfl fun a7 H10 => ?_
    clear H9 a6
    refine wl1 H10 (r_gtr rfl rfl) rfl rfl rfl rfl fun a8 H11 => ?_
    clear H10 a7
    refine wl_end ?_
    refine th_n ?_
    first | refine w_if H11 rfl (fun hc10 => ?_) (fun hc10 => ?_) | refine w_cond H11 rfl (fun hc10 => ?_) (fun hc10 => ?_)
    ·
      try simp only [decide_eq_true_eq, decide_eq_false_iff_not, Bool.or_eq_true, Bool.and_eq_true, Bool.or_eq_false_iff, Bool.and_eq_false_iff, Bool.not_eq_true', Bool.not_eq_false', Int.not_lt, Int.not_le, ne_eq, Decidable.not_not] at hc10
      refine wpIn_skip ?_
      refine th_n ?_
      refine wpIn_block ?_
      refine w_reg ?_
      refine wl1 H11 (r_move rfl) rfl rfl rfl rfl fun a9 H12 => ?_
      clear H11 a8
      refine wlc  H12 rfl rfl hb34 rfl (rlevel hN.sat hE1 hc2) fun v w4 hR a10 H13 => ?_
      clear H12 a9
      obtain ⟨J4, nw4, ⟨A2, c2, rfl, hc22, hE2⟩⟩ := hR
      replace hA := hA.up nw4.le
      replace hE1 := hE1.up nw4.le
      replace hleJ1 := hleJ1.trans nw4.le
      have hN := hN.trans nw4
      refine wl1 H13 (r_assign rfl) rfl rfl rfl rfl fun a11 H14 => ?_
      clear H13 a10
      refine wl_end ?_
      refine bl_n ?_
      exact th_n ⟨((dlevel cur, A2, c2), J4), (by show (dlevel cur).length < cur.length; omega), H14.sub ⟨rfl, rfl, trivial⟩, hleJ1, hN, by show 1 ≤ (dlevel cur).length; omega, by show (dlevel cur).length ≤ _; omega, by show droot (dlevel cur) = _; rw [droot_level' (by omega)]; exact hdr, hE2⟩
    ·
      try simp only [decide_eq_true_eq, decide_eq_false_iff_not, Bool.or_eq_true, Bool.and_eq_true, Bool.or_eq_false_iff, Bool.and_eq_false_iff, Bool.not_eq_true', Bool.not_eq_false', Int.not_lt, Int.not_le, ne_eq, Decidable.not_not] at hc10
      refine wpIn_exit ?_
      refine th_x ?_
      refine th_x ?_
      refine bl_hit ?_
      refine th_n ?_
      refine wpIn_seq ?_
      refine w_reg ?_
      obtain ⟨b1, o1, rfl⟩ := hE1.form (by omega)
      refine wl1 H11 (r_move rfl) rfl rfl rfl rfl fun a9 H15 => ?_
      clear H11 a8
      refine wl1 H15 (r_idx Try.underlying22 sz33 rfl rfl (i := 0) rfl (by omega)) rfl rfl rfl rfl fun a10 H16 => ?_
      clear H15 a9
      refine wl1 H16 (r_load sc33 rfl (hN.sat.cell (hE1.num (j := 0) (by omega)).1)) rfl rfl rfl rfl fun a11 H17 => ?_
      clear H16 a10
      refine wl1 H17 (r_assign rfl) rfl rfl rfl rfl fun a12 H18 => ?_
      clear H17 a11
      refine wl_end ?_
      refine th_n ?_
      refine wpIn_ret ?_
      refine fin_r H18 (res1 rfl H18 rfl) ?_
      exact ⟨by rw [← hdr]; obtain ⟨z, rfl⟩ := List.length_eq_one_iff.1 (show cur.length = 1 by omega); rw [droot_one]; rfl, hN.gr⟩
set_option maxRecDepth 100000 in
set_option maxHeartbeats 1000000 in
theorem rpath {A : Option Addr} {l : List Int} {c : Nat} {z : Int} {I : Im} {w : World} (hS : Sat I w) (hA : Els (kInt .u64) I A l) (hl : l.length ≤ 1048576) (hlc : l.length ≤ c) :
    Ret Try.prog 26 [.slice A l.length c, .int .i64 z] w (fun v w' => ∃ J, New I w J w' ∧ ∃ A' c', v = .agg #[.slice A' (dpathI l z).length c', .int .i64 (dpathE l z)] ∧ (dpathI l z).length ≤ c' ∧ Els (kInt .u64) J A' (dpathI l z)) := by
  refine ret_of (N := 49) Try.func26 rfl rfl rfl fun a0 H0 => ?_
  have hN := New.refl hS
  simp only [argsEnv, Nat.zero_add, Nat.reduceAdd] at H0
  refine wpIn_seq ?_
  refine w_reg ?_
  refine s_alloc H0 zv29 rfl hN fun w1 b4 hN gw1 hB4 hgeb4 heb4 a1 H1 => ?_
  clear H0 a0
  replace hB4 : Box _ _ _ [.slice none 0 0, .int .i64 0] 29 := hB4
  refine wl_end ?_
  refine th_n ?_
  refine wpIn_seq ?_
  refine wpIn_seq ?_
  refine w_reg ?_
  refine wl1 H1 (r_move rfl) rfl rfl rfl rfl fun a2 H2 => ?_
  clear H1 a1
  refine wl1 H2 (r_lss rfl rfl) rfl rfl rfl rfl fun a3 H3 => ?_
  clear H2 a2
  refine wl1 H3 (r_move rfl) rfl rfl rfl rfl fun a4 H4 => ?_
  clear H3 a3
  refine wl_split (t := 8) H4 rfl (fun hg1_2 H5 => ?_) (fun hg1_2 H5 => ?_)
  ·
    clear H4
    try simp only [decide_eq_true_eq, decide_eq_false_iff_not, Bool.or_eq_true, Bool.and_eq_true, Bool.or_eq_false_iff, Bool.and_eq_false_iff, Bool.not_eq_true', Bool.not_eq_false', Int.not_lt, Int.not_le, ne_eq, Decidable.not_not] at hg1_2
    refine wl_off (d := 8) H5 rfl rfl rfl rfl rfl rfl fun a5 H6 => ?_
    clear H5 a4
    refine wl_off (d := 8) H6 rfl rfl rfl rfl rfl rfl fun a6 H7 => ?_
    clear H6 a5
    refine wl_off (d := 8) H7 rfl rfl rfl rfl rfl rfl fun a7 H8 => ?_
    clear H7 a6
    refine wl_off (d := 8) H8 rfl rfl rfl rfl rfl rfl fun a8 H9 => ?_
    clear H8 a7
    refine wl1 H9 (r_pick_t rfl rfl) rfl rfl rfl rfl fun a9 H10 => ?_
    clear H9 a8
    refine wl_end ?_
    refine th_n ?_
    refine w_tt H10 rfl rfl ?_
    refine wpIn_seq ?_
    refine w_reg ?_
    refine wl1 H10 (r_build (v := .agg #[.slice none 0 0, .int .i64 1]) rfl (fun w => by kernel_rfl)) rfl rfl rfl rfl fun a10 H11 => ?_
    clear H10 a9
    refine s_storeA (vs := [_, _]) H11 sz29 (by simp) (by simp [Value.oneCell']) rfl rfl hN hB4 (by simp) hgeb4 fun w2 hN hB4 ew2 H12 => ?_
    clear H11
    simp only [Nat.zero_add, Nat.add_zero, Nat.reduceAdd, Nat.reduceMul, List.set_cons_zero, List.set_cons_succ, spliceL] at hB4
    clear ew2
    refine wl_end ?_
    refine th_n ?_
    refine wpIn_ret ?_
    refine th_r ?_
    refine fin_r H12 (resC rfl H12 rfl hB4 ag29) ?_
    exact ⟨I, hN, none, 0, by rw [show dpathI l z = [] from if_neg (by omega), show dpathE l z = 1 from if_neg (by omega)]; rfl, by rw [show dpathI l z = [] from if_neg (by omega)]; exact Nat.le_refl _, by rw [show dpathI l z = [] from if_neg (by omega)]; exact Els.nil _ _ _⟩
  ·
    clear H4
    try simp only [decide_eq_true_eq, decide_eq_false_iff_not, Bool.or_eq_true, Bool.and_eq_true, Bool.or_eq_false_iff, Bool.and_eq_false_iff, Bool.not_eq_true', Bool.not_eq_false', Int.not_lt, Int.not_le, ne_eq, Decidable.not_not] at hg1_2
    refine wl_on (d := 8) H5 rfl rfl rfl ?_
    refine wl1 H5 (r_move rfl) rfl rfl rfl rfl fun a5 H13 => ?_
    clear H5 a4
    refine wl_on (d := 8) H13 rfl rfl rfl ?_
    refine wl1 H13 (r_move rfl) rfl rfl rfl rfl fun a6 H14 => ?_
    clear H13 a5
    refine wl_on (d := 8) H14 rfl rfl rfl ?_
    refine wl1 H14 (r_len Try.underlying22 rfl) rfl rfl rfl rfl fun a7 H15 => ?_
    clear H14 a6
    refine wl_on (d := 8) H15 rfl rfl rfl ?_
    refine wl1 H15 (r_geq rfl rfl) rfl rfl rfl rfl fun a8 H16 => ?_
    clear H15 a7
    refine wl1 H16 (r_pick_f rfl rfl) rfl rfl rfl rfl fun a9 H17 => ?_
    clear H16 a8
    refine wl_end ?_
    refine th_n ?_
    first | refine w_if H17 rfl (fun hc13 => ?_) (fun hc13 => ?_) | refine w_cond H17 rfl (fun hc13 => ?_) (fun hc13 => ?_)
    ·
      try simp only [decide_eq_true_eq, decide_eq_false_iff_not, Bool.or_eq_true, Bool.and_eq_true, Bool.or_eq_false_iff, Bool.and_eq_false_iff, Bool.not_eq_true', Bool.not_eq_false', Int.not_lt, Int.not_le, ne_eq, Decidable.not_not] at hc13
      refine wpIn_seq ?_
      refine w_reg ?_
      refine wl1 H17 (r_build (v := .agg #[.slice none 0 0, .int .i64 1]) rfl (fun w => by kernel_rfl)) rfl rfl rfl rfl fun a10 H18 => ?_
      clear H17 a9
      refine s_storeA (vs := [_, _]) H18 sz29 (by simp) (by simp [Value.oneCell']) rfl rfl hN hB4 (by simp) hgeb4 fun w3 hN hB4 ew3 H19 => ?_
      clear H18
      simp only [Nat.zero_add, Nat.add_zero, Nat.reduceAdd, Nat.reduceMul, List.set_cons_zero, List.set_cons_succ, spliceL] at hB4
      clear ew3
      refine wl_end ?_
      refine th_n ?_
      refine wpIn_ret ?_
      refine th_r ?_
      refine fin_r H19 (resC rfl H19 rfl hB4 ag29) ?_
      exact ⟨I, hN, none, 0, by rw [show dpathI l z = [] from if_neg (by omega), show dpathE l z = 1 from if_neg (by omega)]; rfl, by rw [show dpathI l z = [] from if_neg (by omega)]; exact Nat.le_refl _, by rw [show dpathI l z = [] from if_neg (by omega)]; exact Els.nil _ _ _⟩
    ·
      try simp only [decide_eq_true_eq, decide_eq_false_iff_not, Bool.or_eq_true, Bool.and_eq_true, Bool.or_eq_false_iff, Bool.and_eq_false_iff, Bool.not_eq_true', Bool.not_eq_false', Int.not_lt, Int.not_le, ne_eq, Decidable.not_not] at hc13
      refine wpIn_skip ?_
      refine th_n ?_
      refine wpIn_seq ?_
      refine w_reg ?_
      obtain ⟨i0, rfl⟩ : ∃ m : Nat, z = (m : Int) := ⟨z.toNat, by omega⟩
      have hi0 : i0 < l.length := by omega
      obtain ⟨B9, hBw⟩ : ∃ B, B = (w1).heap.size := ⟨_, rfl⟩
      have hltB4 := hB4.lt
      have hszB : B9 ≤ (w1).heap.size := Nat.le_of_eq hBw
      have hwB : w.heap.size ≤ B9 := by rw [hBw]; exact hN.gr.size
      refine s_lit1 (cs := []) H17 Try.underlying22 sz33 zv33 rfl rfl rfl (by simp [Value.oneCell']) rfl hN fun w4 l15 K4 hKl15 hlel15 hN nw4 hgel15 a10 H20 => ?_
      clear H17 a9
      replace hA := hA.up nw4.le
      replace hB4 := hB4.next nw4
      replace hszB := Nat.le_trans hszB nw4.gr.size
      refine wl1 H20 (r_assign rfl) rfl rfl rfl rfl fun a11 H21 => ?_
      clear H20 a10
      refine wl_end ?_
      refine th_n ?_
      refine wpIn_seq ?_
      refine wpIn_block ?_
      refine w_loop (ι := (Nat × List Int × List Int × Option Addr × Nat × Value) × Im) (fun xJ => (fun x => [(1, .int .i64 (x.1 : Int)), (0, .slice x.2.2.2.1 x.2.2.1.length x.2.2.2.2.1), (5, x.2.2.2.2.2)]) xJ.1) (fun xJ W => Im.le K4 xJ.2 ∧ New I w xJ.2 W ∧ (fun x (J : Im) => x.1 < x.2.2.1.length ∧ x.2.2.1.length ≤ 1048576 ∧ dpath l i0 = x.2.1 ++ dpath x.2.2.1 x.1 ∧ x.2.1.length + x.2.2.1.length ≤ l.length ∧ Els (kInt .u64) J x.2.2.2.1 x.2.2.1 ∧ Box J W b4 [.slice none 0 0, .int .i64 0] 29 ∧ B9 ≤ W.heap.size ∧ Apx (kInt .u64) J W B9 33 x.2.2.2.2.2 x.2.1) xJ.1 xJ.2) (fun xJ => (fun x => x.2.2.1.length) xJ.1) (l0 := [(4, _)]) ((i0, [], l, A, c, _), K4) H21 ⟨rfl, rfl, rfl, rfl, trivial⟩ ⟨Im.le.refl _, hN, by omega, hl, by simp, by simp, hA, hB4, hszB, .inr ⟨_, rfl, Els.nil _ _ _⟩⟩ ?_
      rintro ⟨⟨i, out, cur, A1, c1, u⟩, J5⟩ a12 w5 H22 ⟨hleJ1, hN, hi, hc2, hdp, hol, hE1, hB4, hszB, hO⟩
      clear H21 a11
      simp only [List.cons_append, List.nil_append] at H22
      try dsimp only at hleJ1
      try dsimp only at hN
      replace hA := hA.up hleJ1
      simp only at hi hc2 hdp hol hE1 hB4 hszB hO H22
      have hcl := dlevel_len _ cur (Nat.le_refl _)
      try dsimp only at hB4
      try dsimp only at hE1
      try dsimp only at hO
      try dsimp only at hc2
      try dsimp only at hdp
      try dsimp only at hi
      try dsimp only at hol
      try dsimp only at hszB
      refine wpIn_seq ?_
      refine wpIn_seq ?_
      refine w_reg ?_
      refine wl1 H22 (r_move rfl) rfl rfl rfl rfl fun a13 H23 => ?_
      clear H22 a12
      refine wl1 H23 (r_len Try.underlying22 rfl) rfl rfl rfl rfl fun a14 H24 => ?_
      clear H23 a13
      refine wl1 H24 (r_gtr rfl rfl) rfl rfl rfl rfl fun a15 H25 => ?_
      clear H24 a14
      refine wl_end ?_
      refine th_n ?_
      first | refine w_if H25 rfl (fun hc18 => ?_) (fun hc18 => ?_) | refine w_cond H25 rfl (fun hc18 => ?_) (fun hc18 => ?_)
      ·
        try simp only [decide_eq_true_eq, decide_eq_false_iff_not, Bool.or_eq_true, Bool.and_eq_true, Bool.or_eq_false_iff, Bool.and_eq_false_iff, Bool.not_eq_true', Bool.not_eq_false', Int.not_lt, Int.not_le, ne_eq, Decidable.not_not] at hc18
        obtain ⟨bA, oA, rfl⟩ := hE1.form (by omega)
        refine wpIn_skip ?_
        refine th_n ?_
        refine wpIn_block ?_
        refine wpIn_seq ?_
        refine wpIn_seq ?_
        refine w_reg ?_
        refine wl1 H25 (r_move rfl) rfl rfl rfl rfl fun a16 H26 => ?_
        clear H25 a15
        refine wl1 H26 (r_remk rfl rfl (by omega) (by omega)) rfl rfl rfl rfl fun a17 H27 => ?_
        clear H26 a16
        
        refine wl1 H27 (r_eql rfl rfl) rfl rfl rfl rfl fun a18 H28 => ?_
        clear H27 a17
        refine wl_end ?_
        refine th_n ?_
        first | refine w_if H28 rfl (fun hc21 => ?_) (fun hc21 => ?_) | refine w_cond H28 rfl (fun hc21 => ?_) (fun hc21 => ?_)
        ·
          try simp only [decide_eq_true_eq, decide_eq_false_iff_not, Bool.or_eq_true, Bool.and_eq_true, Bool.or_eq_false_iff, Bool.and_eq_false_iff, Bool.not_eq_true', Bool.not_eq_false', Int.not_lt, Int.not_le, ne_eq, Decidable.not_not] at hc21
          have hi1 : 1 ≤ i := by omega
          have hst : pathStep cur i = [cur[i - 1]] := by unfold pathStep; rw [if_pos (by omega)]; simp [List.getElem?_eq_getElem (show i - 1 < cur.length by omega)]
          refine w_reg ?_
          refine wl1 H28 (r_move rfl) rfl rfl rfl rfl fun a19 H29 => ?_
          clear H28 a18
          refine wl1 H29 (r_move rfl) rfl rfl rfl rfl fun a20 H30 => ?_
          clear H29 a19
          refine wl1 H30 (r_move rfl) rfl rfl rfl rfl fun a21 H31 => ?_
          clear H30 a20
          first | refine wl1 H31 (r_subk rfl rfl (by simp only [InK]; omega)) rfl rfl rfl rfl fun a22 H32 => ?_ | refine wl1 H31 (r_sub rfl rfl) rfl rfl rfl rfl fun a22 H32 => ?_
          clear H31 a21
          refine wl1 H32 (r_idx Try.underlying22 sz33 rfl rfl (i := (i - 1)) (by omega) (by omega)) rfl rfl rfl rfl fun a23 H33 => ?_
          clear H32 a22
          refine wl1 H33 (r_load sc33 rfl (hN.sat.cell (hE1.num (j := i - 1) (by omega)).1)) rfl rfl rfl rfl fun a24 H34 => ?_
          clear H33 a23
          refine s_lit1 (cs := [_]) H34 Try.underlying22 sz33 zv33 rfl rfl rfl (by simp [Value.oneCell']) rfl hN fun w6 l28 K6 hKl28 hlel28 hN nw6 hgel28 a25 H35 => ?_
          clear H34 a24
          replace hA := hA.up nw6.le
          replace hE1 := hE1.up nw6.le
          replace hB4 := hB4.next nw6
          replace hO := hO.next nw6
          replace hleJ1 := hleJ1.trans nw6.le
          replace hszB := Nat.le_trans hszB nw6.gr.size
          have hE28 : Els (kInt .u64) K6 (some ⟨l28, 0, none⟩) [cur[i - 1]] := Els.nums hKl28 (by simp) (by simp only [List.mem_singleton]; rintro y rfl; exact (hE1.num (j := i - 1) (by omega)).2)
          refine s_app (B := B9) H35 rfl rfl Try.underlying22 nf33 rfl (by decide) (by decide) rfl hN hO hE28 rfl hwB hszB (by omega) fun vw7 w7 hO hOO hOO2 kw7 hN a26 H36 => ?_
          clear H35 a25
          replace hB4 := hB4.keep kw7 (by omega)
          replace hszB := Nat.le_trans hszB kw7.size
          refine wl1 H36 (r_assign rfl) rfl rfl rfl rfl fun a27 H37 => ?_
          clear H36 a26
          refine wl_end ?_
          refine th_n ?_
          refine wpIn_seq ?_
          refine w_reg ?_
          refine wl1 H37 (r_move rfl) rfl rfl rfl rfl fun a28 H38 => ?_
          clear H37 a27
          refine wlc  H38 rfl rfl hb34 rfl (rlevel hN.sat hE1 hc2) fun v w8 hR a29 H39 => ?_
          clear H38 a28
          obtain ⟨J8, nw8, ⟨A2, c2, rfl, hc22, hE2⟩⟩ := hR
          replace hA := hA.up nw8.le
          replace hE1 := hE1.up nw8.le
          replace hB4 := hB4.next nw8
          replace hO := hO.next nw8
          replace hleJ1 := hleJ1.trans nw8.le
          replace hszB := Nat.le_trans hszB nw8.gr.size
          have hN := hN.trans nw8
          refine wl1 H39 (r_assign rfl) rfl rfl rfl rfl fun a30 H40 => ?_
          clear H39 a29
          refine wl_end ?_
          refine th_n ?_
          refine w_reg ?_
          refine wl1 H40 (r_move rfl) rfl rfl rfl rfl fun a31 H41 => ?_
          clear H40 a30
          refine wl1 H41 (r_quok rfl rfl (by omega) (by omega) (by simp only [InK]; omega)) rfl rfl rfl rfl fun a32 H42 => ?_
          clear H41 a31
          rw [show ((i : Int) / 2) = ((i / 2 : Nat) : Int) by omega] at H42
          refine wl1 H42 (r_assign rfl) rfl rfl rfl rfl fun a33 H43 => ?_
          clear H42 a32
          refine wl_end ?_
          refine bl_n ?_
          exact th_n ⟨((i / 2, out ++ [cur[i - 1]], dlevel cur, A2, c2, _), J8), (by show (dlevel cur).length < cur.length; omega), H43.sub ⟨rfl, rfl, rfl, rfl, trivial⟩, hleJ1, hN, by show i / 2 < (dlevel cur).length; omega, by show (dlevel cur).length ≤ _; omega, by show dpath l i0 = (out ++ [cur[i - 1]]) ++ dpath (dlevel cur) (i / 2); rw [hdp, dpath_level _ cur i (Nat.le_refl _) (by omega) hi, hst, List.append_assoc], by show (out ++ [cur[i - 1]]).length + (dlevel cur).length ≤ _; simp; omega, hE2, hB4, hszB, hO⟩
        ·
          try simp only [decide_eq_true_eq, decide_eq_false_iff_not, Bool.or_eq_true, Bool.and_eq_true, Bool.or_eq_false_iff, Bool.and_eq_false_iff, Bool.not_eq_true', Bool.not_eq_false', Int.not_lt, Int.not_le, ne_eq, Decidable.not_not] at hc21
          refine wpIn_seq ?_
          refine w_reg ?_
          refine wl1 H28 (r_move rfl) rfl rfl rfl rfl fun a19 H44 => ?_
          clear H28 a18
          first | refine wl1 H44 (r_addk rfl rfl (by simp only [InK]; omega)) rfl rfl rfl rfl fun a20 H45 => ?_ | refine wl1 H44 (r_add rfl rfl) rfl rfl rfl rfl fun a20 H45 => ?_
          clear H44 a19
          refine wl1 H45 (r_move rfl) rfl rfl rfl rfl fun a21 H46 => ?_
          clear H45 a20
          refine wl1 H46 (r_len Try.underlying22 rfl) rfl rfl rfl rfl fun a22 H47 => ?_
          clear H46 a21
          refine wl1 H47 (r_lss rfl rfl) rfl rfl rfl rfl fun a23 H48 => ?_
          clear H47 a22
          refine wl_end ?_
          refine th_n ?_
          first | refine w_if H48 rfl (fun hc34 => ?_) (fun hc34 => ?_) | refine w_cond H48 rfl (fun hc34 => ?_) (fun hc34 => ?_)
          ·
            try simp only [decide_eq_true_eq, decide_eq_false_iff_not, Bool.or_eq_true, Bool.and_eq_true, Bool.or_eq_false_iff, Bool.and_eq_false_iff, Bool.not_eq_true', Bool.not_eq_false', Int.not_lt, Int.not_le, ne_eq, Decidable.not_not] at hc34
            have hi2 : i + 1 < cur.length := by omega
            have hst : pathStep cur i = [cur[i + 1]] := by unfold pathStep; rw [if_neg (by omega), if_pos hi2]; simp [List.getElem?_eq_getElem hi2]
            refine w_reg ?_
            refine wl1 H48 (r_move rfl) rfl rfl rfl rfl fun a24 H49 => ?_
            clear H48 a23
            refine wl1 H49 (r_move rfl) rfl rfl rfl rfl fun a25 H50 => ?_
            clear H49 a24
            refine wl1 H50 (r_move rfl) rfl rfl rfl rfl fun a26 H51 => ?_
            clear H50 a25
            first | refine wl1 H51 (r_addk rfl rfl (by simp only [InK]; omega)) rfl rfl rfl rfl fun a27 H52 => ?_ | refine wl1 H51 (r_add rfl rfl) rfl rfl rfl rfl fun a27 H52 => ?_
            clear H51 a26
            refine wl1 H52 (r_idx Try.underlying22 sz33 rfl rfl (i := (i + 1)) (by omega) (by omega)) rfl rfl rfl rfl fun a28 H53 => ?_
            clear H52 a27
            refine wl1 H53 (r_load sc33 rfl (hN.sat.cell (hE1.num (j := i + 1) hi2).1)) rfl rfl rfl rfl fun a29 H54 => ?_
            clear H53 a28
            refine s_lit1 (cs := [_]) H54 Try.underlying22 sz33 zv33 rfl rfl rfl (by simp [Value.oneCell']) rfl hN fun w9 l41 K9 hKl41 hlel41 hN nw9 hgel41 a30 H55 => ?_
            clear H54 a29
            replace hA := hA.up nw9.le
            replace hE1 := hE1.up nw9.le
            replace hB4 := hB4.next nw9
            replace hO := hO.next nw9
            replace hleJ1 := hleJ1.trans nw9.le
            replace hszB := Nat.le_trans hszB nw9.gr.size
            have hE41 : Els (kInt .u64) K9 (some ⟨l41, 0, none⟩) [cur[i + 1]] := Els.nums hKl41 (by simp) (by simp only [List.mem_singleton]; rintro y rfl; exact (hE1.num (j := i + 1) hi2).2)
            refine s_app (B := B9) H55 rfl rfl Try.underlying22 nf33 rfl (by decide) (by decide) rfl hN hO hE41 rfl hwB hszB (by omega) fun vw10 w10 hO hOO hOO2 kw10 hN a31 H56 => ?_
            clear H55 a30
            replace hB4 := hB4.keep kw10 (by omega)
            replace hszB := Nat.le_trans hszB kw10.size
            refine wl1 H56 (r_assign rfl) rfl rfl rfl rfl fun a32 H57 => ?_
            clear H56 a31
            refine wl_end ?_
            refine th_n ?_
            refine wpIn_seq ?_
            refine w_reg ?_
            refine wl1 H57 (r_move rfl) rfl rfl rfl rfl fun a33 H58 => ?_
            clear H57 a32
            refine wlc  H58 rfl rfl hb34 rfl (rlevel hN.sat hE1 hc2) fun v w11 hR a34 H59 => ?_
            clear H58 a33
            obtain ⟨J11, nw11, ⟨A2, c2, rfl, hc22, hE2⟩⟩ := hR
            replace hA := hA.up nw11.le
            replace hE1 := hE1.up nw11.le
            replace hB4 := hB4.next nw11
            replace hO := hO.next nw11
            replace hleJ1 := hleJ1.trans nw11.le
            replace hszB := Nat.le_trans hszB nw11.gr.size
            have hN := hN.trans nw11
            refine wl1 H59 (r_assign rfl) rfl rfl rfl rfl fun a35 H60 => ?_
            clear H59 a34
            refine wl_end ?_
            refine th_n ?_
            refine w_reg ?_
            refine wl1 H60 (r_move rfl) rfl rfl rfl rfl fun a36 H61 => ?_
            clear H60 a35
            refine wl1 H61 (r_quok rfl rfl (by omega) (by omega) (by simp only [InK]; omega)) rfl rfl rfl rfl fun a37 H62 => ?_
            clear H61 a36
            rw [show ((i : Int) / 2) = ((i / 2 : Nat) : Int) by omega] at H62
            refine wl1 H62 (r_assign rfl) rfl rfl rfl rfl fun a38 H63 => ?_
            clear H62 a37
            refine wl_end ?_
            refine bl_n ?_
            exact th_n ⟨((i / 2, out ++ [cur[i + 1]], dlevel cur, A2, c2, _), J11), (by show (dlevel cur).length < cur.length; omega), H63.sub ⟨rfl, rfl, rfl, rfl, trivial⟩, hleJ1, hN, by show i / 2 < (dlevel cur).length; omega, by show (dlevel cur).length ≤ _; omega, by show dpath l i0 = (out ++ [cur[i + 1]]) ++ dpath (dlevel cur) (i / 2); rw [hdp, dpath_level _ cur i (Nat.le_refl _) (by omega) hi, hst, List.append_assoc], by show (out ++ [cur[i + 1]]).length + (dlevel cur).length ≤ _; simp; omega, hE2, hB4, hszB, hO⟩
          ·
            try simp only [decide_eq_true_eq, decide_eq_false_iff_not, Bool.or_eq_true, Bool.and_eq_true, Bool.or_eq_false_iff, Bool.and_eq_false_iff, Bool.not_eq_true', Bool.not_eq_false', Int.not_lt, Int.not_le, ne_eq, Decidable.not_not] at hc34
            have hst : pathStep cur i = [] := by unfold pathStep; rw [if_neg (by omega), if_neg (by omega)]
            refine wpIn_skip ?_
            refine th_n ?_
            refine wpIn_seq ?_
            refine w_reg ?_
            refine wl1 H48 (r_move rfl) rfl rfl rfl rfl fun a24 H64 => ?_
            clear H48 a23
            refine wlc  H64 rfl rfl hb34 rfl (rlevel hN.sat hE1 hc2) fun v w12 hR a25 H65 => ?_
            clear H64 a24
            obtain ⟨J12, nw12, ⟨A2, c2, rfl, hc22, hE2⟩⟩ := hR
            replace hA := hA.up nw12.le
            replace hE1 := hE1.up nw12.le
            replace hB4 := hB4.next nw12
            replace hO := hO.next nw12
            replace hleJ1 := hleJ1.trans nw12.le
            replace hszB := Nat.le_trans hszB nw12.gr.size
            have hN := hN.trans nw12
            refine wl1 H65 (r_assign rfl) rfl rfl rfl rfl fun a26 H66 => ?_
            clear H65 a25
            refine wl_end ?_
            refine th_n ?_
            refine w_reg ?_
            refine wl1 H66 (r_move rfl) rfl rfl rfl rfl fun a27 H67 => ?_
            clear H66 a26
            refine wl1 H67 (r_quok rfl rfl (by omega) (by omega) (by simp only [InK]; omega)) rfl rfl rfl rfl fun a28 H68 => ?_
            clear H67 a27
            rw [show ((i : Int) / 2) = ((i / 2 : Nat) : Int) by omega] at H68
            refine wl1 H68 (r_assign rfl) rfl rfl rfl rfl fun a29 H69 => ?_
            clear H68 a28
            refine wl_end ?_
            refine bl_n ?_
            exact th_n ⟨((i / 2, out ++ [], dlevel cur, A2, c2, _), J12), (by show (dlevel cur).length < cur.length; omega), H69.sub ⟨rfl, rfl, rfl, rfl, trivial⟩, hleJ1, hN, by show i / 2 < (dlevel cur).length; omega, by show (dlevel cur).length ≤ _; omega, by show dpath l i0 = (out ++ []) ++ dpath (dlevel cur) (i / 2); rw [hdp, dpath_level _ cur i (Nat.le_refl _) (by omega) hi, hst, List.append_assoc], by show (out ++ []).length + (dlevel cur).length ≤ _; simp; omega, hE2, hB4, hszB, (by rw [List.append_nil]; exact hO)⟩
      ·
        try simp only [decide_eq_true_eq, decide_eq_false_iff_not, Bool.or_eq_true, Bool.and_eq_true, Bool.or_eq_false_iff, Bool.and_eq_false_iff, Bool.not_eq_true', Bool.not_eq_false', Int.not_lt, Int.not_le, ne_eq, Decidable.not_not] at hc18
        refine wpIn_exit ?_
        refine th_x ?_
        refine th_x ?_
        refine bl_hit ?_
        refine th_n ?_
        refine wpIn_seq ?_
        refine w_reg ?_
        rw [dpath_one (l := cur) (by omega), List.append_nil] at hdp
        obtain ⟨Kz12, Ar, cAr, hN, hleKz12, hsmKz12, rfl, hcAr, hEr⟩ := hO.freeze hN hwB
        replace hB4 := hB4.same (hsmKz12 _ (by omega))
        replace hA := hA.up hleKz12
        replace hE1 := hE1.up hleKz12
        replace hleJ1 := hleJ1.trans hleKz12
        refine wl1 H25 (r_move rfl) rfl rfl rfl rfl fun a16 H70 => ?_
        clear H25 a15
        refine wl1 H70 (r_build (v := .agg #[.slice Ar out.length cAr, .int .i64 0]) rfl (fun w => by kernel_rfl)) rfl rfl rfl rfl fun a17 H71 => ?_
        clear H70 a16
        refine s_storeA (vs := [_, _]) H71 sz29 (by simp) (by simp [Value.oneCell']) rfl rfl hN hB4 (by simp) hgeb4 fun w14 hN hB4 ew14 H72 => ?_
        clear H71
        replace hszB := sz_setB ew14 hszB
        simp only [Nat.zero_add, Nat.add_zero, Nat.reduceAdd, Nat.reduceMul, List.set_cons_zero, List.set_cons_succ, spliceL] at hB4
        clear ew14
        refine wl_end ?_
        refine th_n ?_
        refine wpIn_ret ?_
        refine fin_r H72 (resC rfl H72 rfl hB4 ag29) ?_
        have e1 : dpathI l (i0 : Int) = out := by unfold dpathI; rw [if_pos (by omega), ← hdp]; rfl
        exact ⟨Kz12, hN, Ar, cAr, by rw [e1, show dpathE l (i0 : Int) = 0 from if_pos (by omega)], by rw [e1]; exact hcAr, by rw [e1]; exact hEr⟩
set_option maxRecDepth 100000 in
set_option maxHeartbeats 400000 in
theorem rcheck {A : Option Addr} {p : List Int} {c : Nat} {root n i d : Int} {I : Im} {w : World} (hS : Sat I w) (hA : Els (kInt .u64) I A p) (hlc : p.length ≤ c) :
    Ret Try.prog 27 [.int .u64 root, .agg #[.int .i64 n, .slice A p.length c], .agg #[.int .i64 i, .int .u64 d]] w (fun v w' => v = .int .i64 (dcheck root n i d p) ∧ Gr w w') := by
  have hpl := hA.1
  refine ret_of (N := 63) Try.func27 rfl rfl rfl fun a0 H0 => ?_
  have hN := New.refl hS
  simp only [argsEnv, Nat.zero_add, Nat.reduceAdd] at H0
  refine wpIn_seq ?_
  refine w_reg ?_
  refine s_box H0 rfl rfl hN fun w1 b4 hN gw1 hB4 hgeb4 heb4 a1 H1 => ?_
  clear H0 a0
  replace hB4 : Box _ _ _ [_, _] 36 := hB4
  refine s_box H1 rfl rfl hN fun w2 b5 hN gw2 hB5 hgeb5 heb5 a2 H2 => ?_
  clear H1 a1
  replace hB5 : Box _ _ _ [_, _] 38 := hB5
  have hne_hB4_b5 := hB4.lt
  rw [← heb5] at hne_hB4_b5
  replace hB4 := hB4.gr gw2
  refine wl1 H2 (r_assign rfl) rfl rfl rfl rfl fun a3 H3 => ?_
  clear H2 a2
  refine wl_end ?_
  refine th_n ?_
  refine wpIn_seq ?_
  refine wpIn_seq ?_
  refine w_reg ?_
  refine wl1 H3 (r_fld fld36_0 rfl) rfl rfl rfl rfl fun a4 H4 => ?_
  clear H3 a3
  refine wl1 H4 (r_load sc3 rfl (hB4.cell rfl)) rfl rfl rfl rfl fun a5 H5 => ?_
  clear H4 a4
  refine wl1 H5 (r_lss rfl rfl) rfl rfl rfl rfl fun a6 H6 => ?_
  clear H5 a5
  refine wl1 H6 (r_move rfl) rfl rfl rfl rfl fun a7 H7 => ?_
  clear H6 a6
  refine wl_split (t := 13) H7 rfl (fun hg1_3 H8 => ?_) (fun hg1_3 H8 => ?_)
  ·
    clear H7
    try simp only [decide_eq_true_eq, decide_eq_false_iff_not, Bool.or_eq_true, Bool.and_eq_true, Bool.or_eq_false_iff, Bool.and_eq_false_iff, Bool.not_eq_true', Bool.not_eq_false', Int.not_lt, Int.not_le, ne_eq, Decidable.not_not] at hg1_3
    refine wl_off (d := 13) H8 rfl rfl rfl rfl rfl rfl fun a8 H9 => ?_
    clear H8 a7
    refine wl_off (d := 13) H9 rfl rfl rfl rfl rfl rfl fun a9 H10 => ?_
    clear H9 a8
    refine wl_off (d := 13) H10 rfl rfl rfl rfl rfl rfl fun a10 H11 => ?_
    clear H10 a9
    refine wl1 H11 (r_pick_t rfl rfl) rfl rfl rfl rfl fun a11 H12 => ?_
    clear H11 a10
    refine wl1 H12 (r_move rfl) rfl rfl rfl rfl fun a12 H13 => ?_
    clear H12 a11
    refine wl_off (d := 18) H13 rfl rfl rfl rfl rfl rfl fun a13 H14 => ?_
    clear H13 a12
    refine wl_off (d := 18) H14 rfl rfl rfl rfl rfl rfl fun a14 H15 => ?_
    clear H14 a13
    refine wl_off (d := 18) H15 rfl rfl rfl rfl rfl rfl fun a15 H16 => ?_
    clear H15 a14
    refine wl1 H16 (r_pick_t rfl rfl) rfl rfl rfl rfl fun a16 H17 => ?_
    clear H16 a15
    refine wl1 H17 (r_move rfl) rfl rfl rfl rfl fun a17 H18 => ?_
    clear H17 a16
    refine wl_off (d := 23) H18 rfl rfl rfl rfl rfl rfl fun a18 H19 => ?_
    clear H18 a17
    refine wl_off (d := 23) H19 rfl rfl rfl rfl rfl rfl fun a19 H20 => ?_
    clear H19 a18
    refine wl_off (d := 23) H20 rfl rfl rfl rfl rfl rfl fun a20 H21 => ?_
    clear H20 a19
    refine wl_off (d := 23) H21 rfl rfl rfl rfl rfl rfl fun a21 H22 => ?_
    clear H21 a20
    refine wl_off (d := 23) H22 rfl rfl rfl rfl rfl rfl fun a22 H23 => ?_
    clear H22 a21
    refine wl1 H23 (r_pick_t rfl rfl) rfl rfl rfl rfl fun a23 H24 => ?_
    clear H23 a22
    refine wl_end ?_
    refine th_n ?_
    refine w_tt H24 rfl rfl ?_
    refine wpIn_seq ?_
    refine w_reg ?_
    refine wl1 H24 (r_assign rfl) rfl rfl rfl rfl fun a24 H25 => ?_
    clear H24 a23
    refine wl_end ?_
    refine th_n ?_
    refine wpIn_ret ?_
    refine th_r ?_
    refine fin_r H25 (res1 rfl H25 rfl) ?_
    exact ⟨by unfold dcheck; rw [if_pos (by omega)], hN.gr⟩
  ·
    clear H7
    try simp only [decide_eq_true_eq, decide_eq_false_iff_not, Bool.or_eq_true, Bool.and_eq_true, Bool.or_eq_false_iff, Bool.and_eq_false_iff, Bool.not_eq_true', Bool.not_eq_false', Int.not_lt, Int.not_le, ne_eq, Decidable.not_not] at hg1_3
    refine wl_on (d := 13) H8 rfl rfl rfl ?_
    refine wl1 H8 (r_fld fld36_0 rfl) rfl rfl rfl rfl fun a8 H26 => ?_
    clear H8 a7
    refine wl_on (d := 13) H26 rfl rfl rfl ?_
    refine wl1 H26 (r_load sc3 rfl (hB4.cell rfl)) rfl rfl rfl rfl fun a9 H27 => ?_
    clear H26 a8
    refine wl_on (d := 13) H27 rfl rfl rfl ?_
    refine wl1 H27 (r_gtr rfl rfl) rfl rfl rfl rfl fun a10 H28 => ?_
    clear H27 a9
    refine wl1 H28 (r_pick_f rfl rfl) rfl rfl rfl rfl fun a11 H29 => ?_
    clear H28 a10
    refine wl1 H29 (r_move rfl) rfl rfl rfl rfl fun a12 H30 => ?_
    clear H29 a11
    refine wl_split (t := 18) H30 rfl (fun hg1_8 H31 => ?_) (fun hg1_8 H31 => ?_)
    ·
      clear H30
      try simp only [decide_eq_true_eq, decide_eq_false_iff_not, Bool.or_eq_true, Bool.and_eq_true, Bool.or_eq_false_iff, Bool.and_eq_false_iff, Bool.not_eq_true', Bool.not_eq_false', Int.not_lt, Int.not_le, ne_eq, Decidable.not_not] at hg1_8
      refine wl_off (d := 18) H31 rfl rfl rfl rfl rfl rfl fun a13 H32 => ?_
      clear H31 a12
      refine wl_off (d := 18) H32 rfl rfl rfl rfl rfl rfl fun a14 H33 => ?_
      clear H32 a13
      refine wl_off (d := 18) H33 rfl rfl rfl rfl rfl rfl fun a15 H34 => ?_
      clear H33 a14
      refine wl1 H34 (r_pick_t rfl rfl) rfl rfl rfl rfl fun a16 H35 => ?_
      clear H34 a15
      refine wl1 H35 (r_move rfl) rfl rfl rfl rfl fun a17 H36 => ?_
      clear H35 a16
      refine wl_off (d := 23) H36 rfl rfl rfl rfl rfl rfl fun a18 H37 => ?_
      clear H36 a17
      refine wl_off (d := 23) H37 rfl rfl rfl rfl rfl rfl fun a19 H38 => ?_
      clear H37 a18
      refine wl_off (d := 23) H38 rfl rfl rfl rfl rfl rfl fun a20 H39 => ?_
      clear H38 a19
      refine wl_off (d := 23) H39 rfl rfl rfl rfl rfl rfl fun a21 H40 => ?_
      clear H39 a20
      refine wl_off (d := 23) H40 rfl rfl rfl rfl rfl rfl fun a22 H41 => ?_
      clear H40 a21
      refine wl1 H41 (r_pick_t rfl rfl) rfl rfl rfl rfl fun a23 H42 => ?_
      clear H41 a22
      refine wl_end ?_
      refine th_n ?_
      refine w_tt H42 rfl rfl ?_
      refine wpIn_seq ?_
      refine w_reg ?_
      refine wl1 H42 (r_assign rfl) rfl rfl rfl rfl fun a24 H43 => ?_
      clear H42 a23
      refine wl_end ?_
      refine th_n ?_
      refine wpIn_ret ?_
      refine th_r ?_
      refine fin_r H43 (res1 rfl H43 rfl) ?_
      exact ⟨by unfold dcheck; rw [if_pos (by omega)], hN.gr⟩
    ·
      clear H30
      try simp only [decide_eq_true_eq, decide_eq_false_iff_not, Bool.or_eq_true, Bool.and_eq_true, Bool.or_eq_false_iff, Bool.and_eq_false_iff, Bool.not_eq_true', Bool.not_eq_false', Int.not_lt, Int.not_le, ne_eq, Decidable.not_not] at hg1_8
      refine wl_on (d := 18) H31 rfl rfl rfl ?_
      refine wl1 H31 (r_fld fld38_0 rfl) rfl rfl rfl rfl fun a13 H44 => ?_
      clear H31 a12
      refine wl_on (d := 18) H44 rfl rfl rfl ?_
      refine wl1 H44 (r_load sc3 rfl (hB5.cell rfl)) rfl rfl rfl rfl fun a14 H45 => ?_
      clear H44 a13
      refine wl_on (d := 18) H45 rfl rfl rfl ?_
      refine wl1 H45 (r_lss rfl rfl) rfl rfl rfl rfl fun a15 H46 => ?_
      clear H45 a14
      refine wl1 H46 (r_pick_f rfl rfl) rfl rfl rfl rfl fun a16 H47 => ?_
      clear H46 a15
      refine wl1 H47 (r_move rfl) rfl rfl rfl rfl fun a17 H48 => ?_
      clear H47 a16
      refine wl_split (t := 23) H48 rfl (fun hg1_13 H49 => ?_) (fun hg1_13 H49 => ?_)
      ·
        clear H48
        try simp only [decide_eq_true_eq, decide_eq_false_iff_not, Bool.or_eq_true, Bool.and_eq_true, Bool.or_eq_false_iff, Bool.and_eq_false_iff, Bool.not_eq_true', Bool.not_eq_false', Int.not_lt, Int.not_le, ne_eq, Decidable.not_not] at hg1_13
        refine wl_off (d := 23) H49 rfl rfl rfl rfl rfl rfl fun a18 H50 => ?_
        clear H49 a17
        refine wl_off (d := 23) H50 rfl rfl rfl rfl rfl rfl fun a19 H51 => ?_
        clear H50 a18
        refine wl_off (d := 23) H51 rfl rfl rfl rfl rfl rfl fun a20 H52 => ?_
        clear H51 a19
        refine wl_off (d := 23) H52 rfl rfl rfl rfl rfl rfl fun a21 H53 => ?_
        clear H52 a20
        refine wl_off (d := 23) H53 rfl rfl rfl rfl rfl rfl fun a22 H54 => ?_
        clear H53 a21
        refine wl1 H54 (r_pick_t rfl rfl) rfl rfl rfl rfl fun a23 H55 => ?_
        clear H54 a22
        refine wl_end ?_
        refine th_n ?_
        refine w_tt H55 rfl rfl ?_
        refine wpIn_seq ?_
        refine w_reg ?_
        refine wl1 H55 (r_assign rfl) rfl rfl rfl rfl fun a24 H56 => ?_
        clear H55 a23
        refine wl_end ?_
        refine th_n ?_
        refine wpIn_ret ?_
        refine th_r ?_
        refine fin_r H56 (res1 rfl H56 rfl) ?_
        exact ⟨by unfold dcheck; rw [if_pos (by omega)], hN.gr⟩
      ·
        clear H48
        try simp only [decide_eq_true_eq, decide_eq_false_iff_not, Bool.or_eq_true, Bool.and_eq_true, Bool.or_eq_false_iff, Bool.and_eq_false_iff, Bool.not_eq_true', Bool.not_eq_false', Int.not_lt, Int.not_le, ne_eq, Decidable.not_not] at hg1_13
        refine wl_on (d := 23) H49 rfl rfl rfl ?_
        refine wl1 H49 (r_fld fld38_0 rfl) rfl rfl rfl rfl fun a18 H57 => ?_
        clear H49 a17
        refine wl_on (d := 23) H57 rfl rfl rfl ?_
        refine wl1 H57 (r_load sc3 rfl (hB5.cell rfl)) rfl rfl rfl rfl fun a19 H58 => ?_
        clear H57 a18
        refine wl_on (d := 23) H58 rfl rfl rfl ?_
        refine wl1 H58 (r_fld fld36_0 rfl) rfl rfl rfl rfl fun a20 H59 => ?_
        clear H58 a19
        refine wl_on (d := 23) H59 rfl rfl rfl ?_
        refine wl1 H59 (r_load sc3 rfl (hB4.cell rfl)) rfl rfl rfl rfl fun a21 H60 => ?_
        clear H59 a20
        refine wl_on (d := 23) H60 rfl rfl rfl ?_
        refine wl1 H60 (r_geq rfl rfl) rfl rfl rfl rfl fun a22 H61 => ?_
        clear H60 a21
        refine wl1 H61 (r_pick_f rfl rfl) rfl rfl rfl rfl fun a23 H62 => ?_
        clear H61 a22
        refine wl_end ?_
        refine th_n ?_
        first | refine w_if H62 rfl (fun hc29 => ?_) (fun hc29 => ?_) | refine w_cond H62 rfl (fun hc29 => ?_) (fun hc29 => ?_)
        ·
          try simp only [decide_eq_true_eq, decide_eq_false_iff_not, Bool.or_eq_true, Bool.and_eq_true, Bool.or_eq_false_iff, Bool.and_eq_false_iff, Bool.not_eq_true', Bool.not_eq_false', Int.not_lt, Int.not_le, ne_eq, Decidable.not_not] at hc29
          refine wpIn_seq ?_
          refine w_reg ?_
          refine wl1 H62 (r_assign rfl) rfl rfl rfl rfl fun a24 H63 => ?_
          clear H62 a23
          refine wl_end ?_
          refine th_n ?_
          refine wpIn_ret ?_
          refine th_r ?_
          refine fin_r H63 (res1 rfl H63 rfl) ?_
          exact ⟨by unfold dcheck; rw [if_pos (by omega)], hN.gr⟩
        ·
          try simp only [decide_eq_true_eq, decide_eq_false_iff_not, Bool.or_eq_true, Bool.and_eq_true, Bool.or_eq_false_iff, Bool.and_eq_false_iff, Bool.not_eq_true', Bool.not_eq_false', Int.not_lt, Int.not_le, ne_eq, Decidable.not_not] at hc29
          refine wpIn_skip ?_
          refine th_n ?_
          refine wpIn_seq ?_
          refine w_reg ?_
          obtain ⟨m, rfl⟩ : ∃ m : Nat, n = (m : Int) := ⟨n.toNat, by omega⟩
          obtain ⟨k, rfl⟩ : ∃ k : Nat, i = (k : Int) := ⟨i.toNat, by omega⟩
          have hkm : k < m := by omega
          have hm4 : 1 ≤ m ∧ m ≤ 4096 := by omega
          refine wl1 H62 (r_fld fld36_0 rfl) rfl rfl rfl rfl fun a24 H64 => ?_
          clear H62 a23
          refine wl1 H64 (r_load sc3 rfl (hB4.cell rfl)) rfl rfl rfl rfl fun a25 H65 => ?_
          clear H64 a24
          refine wl1 H65 (r_fld fld38_0 rfl) rfl rfl rfl rfl fun a26 H66 => ?_
          clear H65 a25
          refine wl1 H66 (r_load sc3 rfl (hB5.cell rfl)) rfl rfl rfl rfl fun a27 H67 => ?_
          clear H66 a26
          refine wlc  H67 rfl rfl hb15 rfl (br_sides (n := m) (i := k) hN.sat (by omega) hkm rfl rfl) fun v w3 hR a28 H68 => ?_
          clear H67 a27
          obtain ⟨J3, nw3, ⟨A3, c3, rfl, hc3, hE3⟩⟩ := hR
          replace hA := hA.up nw3.le
          replace hB4 := hB4.next nw3
          replace hB5 := hB5.next nw3
          have hN := hN.trans nw3
          obtain ⟨S, hSd⟩ : ∃ s, s = dsides m k := ⟨_, rfl⟩
          have hck := dcheck_eq root d p hm4.1 hm4.2 hkm
          rw [← dsides_eq m m k (Nat.le_refl _) hkm, ← hSd] at hck
          rw [← hSd] at H68 hc3 hE3
          refine wl1 H68 (r_assign rfl) rfl rfl rfl rfl fun a29 H69 => ?_
          clear H68 a28
          refine wl_end ?_
          refine th_n ?_
          refine wpIn_seq ?_
          refine wpIn_seq ?_
          refine w_reg ?_
          refine wl1 H69 (r_move rfl) rfl rfl rfl rfl fun a30 H70 => ?_
          clear H69 a29
          refine wl1 H70 (r_len Try.underlying44 rfl) rfl rfl rfl rfl fun a31 H71 => ?_
          clear H70 a30
          refine wl1 H71 (r_fld fld36_1 rfl) rfl rfl rfl rfl fun a32 H72 => ?_
          clear H71 a31
          refine wl1 H72 (r_load sc22 rfl (hB4.cell rfl)) rfl rfl rfl rfl fun a33 H73 => ?_
          clear H72 a32
          refine wl1 H73 (r_len Try.underlying22 rfl) rfl rfl rfl rfl fun a34 H74 => ?_
          clear H73 a33
          refine wl1 H74 (r_neq rfl rfl) rfl rfl rfl rfl fun a35 H75 => ?_
          clear H74 a34
          refine wl_end ?_
          refine th_n ?_
          first | refine w_if H75 rfl (fun hc40 => ?_) (fun hc40 => ?_) | refine w_cond H75 rfl (fun hc40 => ?_) (fun hc40 => ?_)
          ·
            try simp only [decide_eq_true_eq, decide_eq_false_iff_not, Bool.or_eq_true, Bool.and_eq_true, Bool.or_eq_false_iff, Bool.and_eq_false_iff, Bool.not_eq_true', Bool.not_eq_false', Int.not_lt, Int.not_le, ne_eq, Decidable.not_not] at hc40
            refine wpIn_seq ?_
            refine w_reg ?_
            refine wl1 H75 (r_assign rfl) rfl rfl rfl rfl fun a36 H76 => ?_
            clear H75 a35
            refine wl_end ?_
            refine th_n ?_
            refine wpIn_ret ?_
            refine th_r ?_
            refine fin_r H76 (res1 rfl H76 rfl) ?_
            exact ⟨by rw [hck, if_neg (by omega)], hN.gr⟩
          ·
            try simp only [decide_eq_true_eq, decide_eq_false_iff_not, Bool.or_eq_true, Bool.and_eq_true, Bool.or_eq_false_iff, Bool.and_eq_false_iff, Bool.not_eq_true', Bool.not_eq_false', Int.not_lt, Int.not_le, ne_eq, Decidable.not_not] at hc40
            refine wpIn_skip ?_
            refine th_n ?_
            refine wpIn_seq ?_
            refine w_reg ?_
            refine wl1 H75 (r_fld fld38_1 rfl) rfl rfl rfl rfl fun a36 H77 => ?_
            clear H75 a35
            refine wl1 H77 (r_load sc33 rfl (hB5.cell rfl)) rfl rfl rfl rfl fun a37 H78 => ?_
            clear H77 a36
            refine wl1 H78 (r_assign rfl) rfl rfl rfl rfl fun a38 H79 => ?_
            clear H78 a37
            refine wl_end ?_
            refine th_n ?_
            refine wpIn_seq ?_
            refine wpIn_seq ?_
            refine w_reg ?_
            refine wl1 H79 (r_assign rfl) rfl rfl rfl rfl fun a39 H80 => ?_
            clear H79 a38
            refine wl_end ?_
            refine th_n ?_
            refine wpIn_block ?_
            refine w_loop (ι := (Nat) × Im) (fun xJ => (fun j => [(9, .int .i64 (j : Int)), (8, .int .u64 (dfoldUp d (p.take j) (S.take j)))]) xJ.1) (fun xJ W => Im.le J3 xJ.2 ∧ New I w xJ.2 W ∧ (fun j (J : Im) => j ≤ S.length ∧ Box J W b4 [.int .i64 (m : Int), .slice A p.length c] 36) xJ.1 xJ.2) (fun xJ => (fun j => S.length - j) xJ.1) (l0 := [(0, _), (4, _), (6, _), (7, _)]) (0, J3) H80 ⟨rfl, rfl, rfl, rfl, rfl, rfl, trivial⟩ ⟨Im.le.refl _, hN, Nat.zero_le _, hB4⟩ ?_
            rintro ⟨j, J4⟩ a40 w4 H81 ⟨hleJ1, hN, hj, hB4⟩
            clear H80 a39
            simp only [List.cons_append, List.nil_append] at H81
            try dsimp only at hleJ1
            try dsimp only at hN
            replace hA := hA.up hleJ1
            replace hE3 := hE3.up hleJ1
            simp only at hj hB4 H81
            try dsimp only at hB4
            try dsimp only at hj
            refine wpIn_seq ?_
            refine wpIn_seq ?_
            refine w_reg ?_
            refine wl1 H81 (r_move rfl) rfl rfl rfl rfl fun a41 H82 => ?_
            clear H81 a40
            refine wl1 H82 (r_move rfl) rfl rfl rfl rfl fun a42 H83 => ?_
            clear H82 a41
            refine wl1 H83 (r_len Try.underlying44 rfl) rfl rfl rfl rfl fun a43 H84 => ?_
            clear H83 a42
            refine wl1 H84 (r_lss rfl rfl) rfl rfl rfl rfl fun a44 H85 => ?_
            clear H84 a43
            refine wl_end ?_
            refine th_n ?_
            first | refine w_if H85 rfl (fun hc46 => ?_) (fun hc46 => ?_) | refine w_cond H85 rfl (fun hc46 => ?_) (fun hc46 => ?_)
            ·
              try simp only [decide_eq_true_eq, decide_eq_false_iff_not, Bool.or_eq_true, Bool.and_eq_true, Bool.or_eq_false_iff, Bool.and_eq_false_iff, Bool.not_eq_true', Bool.not_eq_false', Int.not_lt, Int.not_le, ne_eq, Decidable.not_not] at hc46
              obtain ⟨b3, o3, rfl⟩ := hE3.form (by omega)
              obtain ⟨b5, o5, rfl⟩ := hA.form (by omega)
              have hjS : j < S.length := by omega
              have hjp : j < p.length := by omega
              refine wpIn_skip ?_
              refine th_n ?_
              refine wpIn_seq ?_
              refine wpIn_block ?_
              have hS0 := hN.sat
              have hNsz10 := hN.gr.size
              refine w_drawE (m := 10) (l0 := [(0, _), (4, _), (6, _), (7, _), (8, _), (9, _)]) hfol H85 ⟨rfl, rfl, rfl, rfl, rfl, rfl, trivial⟩ (by kernel_rfl) ?_
              refine ⟨_, false, (fun σ ι w1 hg hd hon => by
                  exact OpOK.sub (r := [(0, _), (4, _), (6, _), (7, _), (8, _), (9, _)]) ⟨rfl, rfl, rfl, rfl, rfl, rfl, trivial⟩ (by
                    exact OpOK.eq (r_move rfl))
                  ), (fun _ _ _ _ _ _ h => h), (FreeR.no _), ?_⟩
              refine ⟨_, false, (fun σ ι w1 hg hd hon => by
                  exact OpOK.sub (r := [(0, _), (4, _), (6, _), (7, _), (8, _), (9, _)]) ⟨rfl, rfl, rfl, rfl, rfl, rfl, trivial⟩ (by
                    exact OpOK.eq (r_fld fld36_1 rfl))
                  ), (fun _ _ _ _ _ _ h => h), (FreeR.no _), ?_⟩
              refine ⟨_, false, (fun σ ι w1 hg hd hon => by
                  have hN := hN.ofGr ((Gr.refl _).drew.trans hg)
                  have hB4 := hB4.gr ((Gr.refl _).drew.trans hg)
                  have f1 := hd 1 (by decide) _ rfl
                  have e1 : σ 1 = _ := f1.1 trivial
                  exact OpOK.sub (r := [(50, _), (0, _), (4, _), (6, _), (7, _), (8, _), (9, _)]) ⟨congrArg some e1, rfl, rfl, rfl, rfl, rfl, rfl, trivial⟩ (by
                    exact OpOK.eq (r_load sc22 rfl (hB4.cell rfl)))
                  ), (fun _ _ _ _ _ _ h => h), (FreeR.no _), ?_⟩
              refine ⟨_, false, (fun σ ι w1 hg hd hon => by
                  exact OpOK.sub (r := [(0, _), (4, _), (6, _), (7, _), (8, _), (9, _)]) ⟨rfl, rfl, rfl, rfl, rfl, rfl, trivial⟩ (by
                    exact OpOK.eq (r_move rfl))
                  ), (fun _ _ _ _ _ _ h => h), (FreeR.no _), ?_⟩
              refine ⟨_, false, (fun σ ι w1 hg hd hon => by
                  have f2 := hd 2 (by decide) _ rfl
                  have f3 := hd 3 (by decide) _ rfl
                  have e2 : σ 2 = _ := f2.1 trivial
                  have e3 : σ 3 = _ := f3.1 trivial
                  exact OpOK.sub (r := [(51, _), (52, _), (0, _), (4, _), (6, _), (7, _), (8, _), (9, _)]) ⟨congrArg some e2, congrArg some e3, rfl, rfl, rfl, rfl, rfl, rfl, trivial⟩ (by
                    exact OpOK.eq (r_idx Try.underlying22 sz33 rfl rfl (i := j) rfl (by omega)))
                  ), (fun _ _ _ _ _ _ h => h), (FreeR.no _), ?_⟩
              refine ⟨_, false, (fun σ ι w1 hg hd hon => by
                  have hN := hN.ofGr ((Gr.refl _).drew.trans hg)
                  have hB4 := hB4.gr ((Gr.refl _).drew.trans hg)
                  have f4 := hd 4 (by decide) _ rfl
                  have e4 : σ 4 = _ := f4.1 trivial
                  exact OpOK.sub (r := [(53, _), (0, _), (4, _), (6, _), (7, _), (8, _), (9, _)]) ⟨congrArg some e4, rfl, rfl, rfl, rfl, rfl, rfl, trivial⟩ (by
                    exact OpOK.eq (r_load sc33 rfl (hN.sat.cell (hA.num (j := j) hjp).1)))
                  ), (fun _ _ _ _ _ _ h => h), (FreeR.no _), ?_⟩
              refine ⟨_, false, (fun σ ι w1 hg hd hon => by
                  exact OpOK.sub (r := [(0, _), (4, _), (6, _), (7, _), (8, _), (9, _)]) ⟨rfl, rfl, rfl, rfl, rfl, rfl, trivial⟩ (by
                    exact OpOK.eq (r_move rfl))
                  ), (fun _ _ _ _ _ _ h => h), (FreeR.no _), ?_⟩
              refine ⟨_, false, (fun σ ι w1 hg hd hon => by
                  exact OpOK.sub (r := [(0, _), (4, _), (6, _), (7, _), (8, _), (9, _)]) ⟨rfl, rfl, rfl, rfl, rfl, rfl, trivial⟩ (by
                    exact OpOK.eq (r_move rfl))
                  ), (fun _ _ _ _ _ _ h => h), (FreeR.no _), ?_⟩
              refine ⟨_, false, (fun σ ι w1 hg hd hon => by
                  have f6 := hd 6 (by decide) _ rfl
                  have f7 := hd 7 (by decide) _ rfl
                  have e6 : σ 6 = _ := f6.1 trivial
                  have e7 : σ 7 = _ := f7.1 trivial
                  exact OpOK.sub (r := [(55, _), (56, _), (0, _), (4, _), (6, _), (7, _), (8, _), (9, _)]) ⟨congrArg some e6, congrArg some e7, rfl, rfl, rfl, rfl, rfl, rfl, trivial⟩ (by
                    exact OpOK.eq (r_idx Try.underlying44 sz4 rfl rfl (i := j) rfl (by omega)))
                  ), (fun _ _ _ _ _ _ h => h), (FreeR.no _), ?_⟩
              refine ⟨_, false, (fun σ ι w1 hg hd hon => by
                  have hN := hN.ofGr ((Gr.refl _).drew.trans hg)
                  have hB4 := hB4.gr ((Gr.refl _).drew.trans hg)
                  have f8 := hd 8 (by decide) _ rfl
                  have e8 : σ 8 = _ := f8.1 trivial
                  exact OpOK.sub (r := [(57, _), (0, _), (4, _), (6, _), (7, _), (8, _), (9, _)]) ⟨congrArg some e8, rfl, rfl, rfl, rfl, rfl, rfl, trivial⟩ (by
                    exact OpOK.eq (r_load sc4 rfl (hN.sat.cell (hE3.bool hjS))))
                  ), (fun _ _ _ _ _ _ h => h), (FreeR.no _), ?_⟩
              intro σ ι a45 w6 hgw6 H86 hd hap
              skip
              have hN0 := hN
              have hN := hN.ofGr ((Gr.refl _).drew.trans hgw6)
              replace hB4 := hB4.gr ((Gr.refl _).drew.trans hgw6)
              have e0 : σ 0 = _ := (hd 0 (by decide) _ rfl).1 trivial
              have e5 : σ 5 = _ := (hd 5 (by decide) _ rfl).1 trivial
              have e9 : σ 9 = _ := (hd 9 (by decide) _ rfl).1 trivial
              replace H86 := H86.sub (r := [(49, _), (54, _), (58, _), (0, _), (4, _), (6, _), (7, _), (8, _), (9, _)]) ⟨congrArg some e0, congrArg some e5, congrArg some e9, rfl, rfl, rfl, rfl, rfl, rfl, trivial⟩
              clear hd
              clear hap
              refine wlc  H86 rfl rfl hb16 rfl (br_up hN.sat) fun v w7 hR a46 H87 => ?_
              clear H86 a45
              obtain ⟨rfl, gw7⟩ := hR
              have hN := hN.ofGr gw7
              replace hB4 := hB4.gr gw7
              refine wl1 H87 (r_assign rfl) rfl rfl rfl rfl fun a47 H88 => ?_
              clear H87 a46
              rw [← dfoldUp_take _ p S j hjp hjS] at H88
              refine wl_end ?_
              refine bl_n ?_
              refine th_n ?_
              refine w_reg ?_
              refine wl1 H88 (r_move rfl) rfl rfl rfl rfl fun a48 H89 => ?_
              clear H88 a47
              first | refine wl1 H89 (r_addk rfl rfl (by simp only [InK]; omega)) rfl rfl rfl rfl fun a49 H90 => ?_ | refine wl1 H89 (r_add rfl rfl) rfl rfl rfl rfl fun a49 H90 => ?_
              clear H89 a48
              refine wl1 H90 (r_assign rfl) rfl rfl rfl rfl fun a50 H91 => ?_
              clear H90 a49
              refine wl_end ?_
              exact th_n ⟨(j + 1, J4), (by show S.length - (j + 1) < S.length - j; omega), H91.sub ⟨rfl, rfl, rfl, rfl, rfl, rfl, trivial⟩, hleJ1, hN, by show j + 1 ≤ S.length; omega, hB4⟩
            ·
              try simp only [decide_eq_true_eq, decide_eq_false_iff_not, Bool.or_eq_true, Bool.and_eq_true, Bool.or_eq_false_iff, Bool.and_eq_false_iff, Bool.not_eq_true', Bool.not_eq_false', Int.not_lt, Int.not_le, ne_eq, Decidable.not_not] at hc46
              have hjl : j = S.length := by omega
              rw [hjl, List.take_of_length_le (show p.length ≤ S.length by omega), List.take_length] at H85
              refine wpIn_exit ?_
              refine th_x ?_
              refine th_x ?_
              refine bl_hit ?_
              refine th_n ?_
              refine wpIn_seq ?_
              refine wpIn_seq ?_
              refine w_reg ?_
              refine wl1 H85 (r_move rfl) rfl rfl rfl rfl fun a45 H92 => ?_
              clear H85 a44
              refine wl1 H92 (r_move rfl) rfl rfl rfl rfl fun a46 H93 => ?_
              clear H92 a45
              refine wl1 H93 (r_neq rfl rfl) rfl rfl rfl rfl fun a47 H94 => ?_
              clear H93 a46
              refine wl_end ?_
              refine th_n ?_
              first | refine w_if H94 rfl (fun hc62 => ?_) (fun hc62 => ?_) | refine w_cond H94 rfl (fun hc62 => ?_) (fun hc62 => ?_)
              ·
                try simp only [decide_eq_true_eq, decide_eq_false_iff_not, Bool.or_eq_true, Bool.and_eq_true, Bool.or_eq_false_iff, Bool.and_eq_false_iff, Bool.not_eq_true', Bool.not_eq_false', Int.not_lt, Int.not_le, ne_eq, Decidable.not_not] at hc62
                refine wpIn_seq ?_
                refine w_reg ?_
                refine wl1 H94 (r_assign rfl) rfl rfl rfl rfl fun a48 H95 => ?_
                clear H94 a47
                refine wl_end ?_
                refine th_n ?_
                refine wpIn_ret ?_
                refine th_r ?_
                refine fin_r H95 (res1 rfl H95 rfl) ?_
                exact ⟨by rw [hck, if_neg (fun e => hc62 e.2)], hN.gr⟩
              ·
                try simp only [decide_eq_true_eq, decide_eq_false_iff_not, Bool.or_eq_true, Bool.and_eq_true, Bool.or_eq_false_iff, Bool.and_eq_false_iff, Bool.not_eq_true', Bool.not_eq_false', Int.not_lt, Int.not_le, ne_eq, Decidable.not_not] at hc62
                refine wpIn_skip ?_
                refine th_n ?_
                refine wpIn_seq ?_
                refine w_reg ?_
                refine wl1 H94 (r_assign rfl) rfl rfl rfl rfl fun a48 H96 => ?_
                clear H94 a47
                refine wl_end ?_
                refine th_n ?_
                refine wpIn_ret ?_
                refine fin_r H96 (res1 rfl H96 rfl) ?_
                exact ⟨by rw [hck, if_pos ⟨by omega, hc62⟩], hN.gr⟩
end Go.Proofs.Ytlikefnngkokhaa
