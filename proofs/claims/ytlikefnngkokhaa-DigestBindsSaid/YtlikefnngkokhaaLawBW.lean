/- The law DigestBinds, walked. -/
import Derived.Test.YtlikefnngkokhaaBr01
import Derived.Test.YtlikefnngkokhaaTy
set_option linter.unusedVariables false
set_option linter.unusedSimpArgs false
namespace Go.Proofs.Ytlikefnngkokhaa
open Go.RowKit


theorem Els.bool {I : Im} {b o : Nat} {xs : List Bool} (h : Els kBool I (some ⟨b, o, none⟩) xs) {j : Nat} (hj : j < xs.length) : I.cell? ⟨b, o + j * 1, none⟩ = some (.bool xs[j]) := by
  obtain ⟨vs, hv, hc⟩ := h.at_ (List.getElem?_eq_getElem hj)
  have hv' : vs = [.bool xs[j]] := hv
  subst hv'
  have := hc 0 (.bool xs[j]) rfl
  simpa [kBool] using this
theorem eq_next {P pt : List Int} {j : Nat} (hP : j < P.length) (hp : j < pt.length) {g0 x : Int} : (g0 = x ∧ P.take (j + 1) = pt.take (j + 1)) ↔ (g0 = x ∧ P.take j = pt.take j) ∧ P[j] = pt[j] := by
  rw [take_snoc' P j hP, take_snoc' pt j hp]
  constructor
  · rintro ⟨h1, h2⟩
    have := List.append_inj h2 (by simp; omega)
    exact ⟨⟨h1, this.1⟩, by simpa using this.2⟩
  · rintro ⟨⟨h1, h2⟩, h3⟩
    exact ⟨h1, by rw [h2, h3]⟩
theorem binds_end {d P pt : List Int} {S : List Bool} {i : Nat} {x : Int} (hi : i < d.length) (hn : d.length ≤ 4096) (hP : P = dpath d i) (hS : S = dsides d.length i) (hck : dcheck (droot d) d.length i x pt = 0) :
    S.length = P.length ∧ pt.length = S.length ∧ dfoldUp d[i] P S = droot d ∧ dfoldUp x pt S = droot d := by
  have e := dsides_eq d.length d.length i (Nat.le_refl _) hi
  rw [e] at hS
  have h1 := dpath_sides _ d i (Nat.le_refl _)
  rw [← hP, ← hS] at h1
  rw [dcheck_eq _ _ _ (by omega) hn hi, ← hS] at hck
  have h2 : pt.length = S.length ∧ dfoldUp x pt S = droot d := by
    by_cases h : pt.length = S.length ∧ dfoldUp x pt S = droot d
    · exact h
    · rw [if_neg h] at hck; cases hck
  have h3 := droot_fold d i hi
  rw [← hP, ← hS, List.getD_eq_getElem?_getD, List.getElem?_eq_getElem hi] at h3
  exact ⟨h1.symm, h2.1, h3.symm, h2.2⟩

set_option maxRecDepth 100000 in
set_option maxHeartbeats 2000000 in
theorem binds_ret {A : Option Addr} {c : Nat} {l : List Int} {k0 k1 y : Int} {I : Im} {w : World} (hS : Sat I w) (hA : Els (kInt .u64) I A l) (hlc : l.length ≤ c) (hk0 : 0 ≤ k0 ∧ k0 ≤ 65535) (hk1 : 0 ≤ k1 ∧ k1 ≤ 65535) (hy : 0 ≤ y ∧ y ≤ 18446744073709551615) :
    Ret Try.prog 6 [.slice A l.length c, .agg #[.int .u16 k0, .int .u16 k1], .int .u64 y] w (fun v w' => v = .bool true ∧ Gr w w') := by
  obtain ⟨n0, hn0⟩ : ∃ n : Nat, 1 + k0 % 60 = (n : Int) := ⟨(1 + k0 % 60).toNat, by omega⟩
  have hn1 : 1 ≤ n0 ∧ n0 ≤ 60 := by omega
  refine ret_of (N := 162) Try.func6 rfl rfl rfl fun a0 H0 => ?_
  have hN := New.refl hS
  simp only [argsEnv, Nat.zero_add, Nat.reduceAdd] at H0
  refine wpIn_seq ?_
  refine w_reg ?_
  refine s_box H0 rfl rfl hN fun w1 b4 hN gw1 hB4 hgeb4 heb4 a1 H1 => ?_
  clear H0 a0
  replace hB4 : Box _ _ _ [_, _] 24 := hB4
  refine wl1 H1 (r_assign rfl) rfl rfl rfl rfl fun a2 H2 => ?_
  clear H1 a1
  refine wl_end ?_
  refine th_n ?_
  refine wpIn_seq ?_
  refine w_reg ?_
  refine wlc  H2 rfl rfl hb9 rfl (br_ex hN.sat) fun v w2 hR a3 H3 => ?_
  clear H2 a2
  obtain ⟨rfl, gw2⟩ := hR
  have hN := hN.ofGr gw2
  replace hB4 := hB4.gr gw2
  replace H3 := H3.known (t := 20) (b := true) rfl rfl
  refine wl1 H3 (r_assign rfl) rfl rfl rfl rfl fun a4 H4 => ?_
  clear H3 a3
  refine wl_end ?_
  refine th_n ?_
  refine wpIn_seq ?_
  refine wpIn_seq ?_
  refine w_reg ?_
  refine wl1 H4 (r_move rfl) rfl rfl rfl rfl fun a5 H5 => ?_
  clear H4 a4
  refine wl1 H5 (r_not rfl) rfl rfl rfl rfl fun a6 H6 => ?_
  clear H5 a5
  replace H6 := H6.known (t := 22) (b := false) rfl rfl
  refine wl_end ?_
  refine th_n ?_
  refine w_ff H6 rfl rfl ?_
  refine wpIn_skip ?_
  refine th_n ?_
  refine wpIn_seq ?_
  refine w_reg ?_
  refine wl1 H6 (r_move rfl) rfl rfl rfl rfl fun a7 H7 => ?_
  clear H6 a6
  refine wl1 H7 (r_idxA Try.underlying24 sz23 rfl rfl (i := 0) rfl (by omega)) rfl rfl rfl rfl fun a8 H8 => ?_
  clear H7 a7
  refine wl1 H8 (r_load sc23 rfl (hB4.cell rfl)) rfl rfl rfl rfl fun a9 H9 => ?_
  clear H8 a8
  refine wl1 H9 (r_remk rfl rfl (by omega) (by omega)) rfl rfl rfl rfl fun a10 H10 => ?_
  clear H9 a9
  first | refine wl1 H10 (r_convk Try.underlying23 Try.underlying3 rfl (by simp only [InK]; omega)) rfl rfl rfl rfl fun a11 H11 => ?_ | refine wl1 H10 (r_conv Try.underlying23 Try.underlying3 rfl) rfl rfl rfl rfl fun a11 H11 => ?_
  clear H10 a10
  first | refine wl1 H11 (r_addk rfl rfl (by simp only [InK]; omega)) rfl rfl rfl rfl fun a12 H12 => ?_ | refine wl1 H11 (r_add rfl rfl) rfl rfl rfl rfl fun a12 H12 => ?_
  clear H11 a11
  rw [hn0] at H12
  refine wlc  H12 rfl rfl hb10 rfl (br_grown (n := n0) hN.sat hA hlc (by omega) rfl) fun v w3 hR a13 H13 => ?_
  clear H12 a12
  obtain ⟨J3, nw3, ⟨A1, c1, rfl, hc1, hE1⟩⟩ := hR
  replace hA := hA.up nw3.le
  replace hB4 := hB4.next nw3
  have hN := hN.trans nw3
  obtain ⟨d, hd⟩ : ∃ d, d = dgrown l n0 := ⟨_, rfl⟩
  have hdl : d.length = n0 := by rw [hd]; exact dgrown_len _ _
  rw [← hd] at H13 hE1 hc1
  have hdU : Us d := by rw [hd]; exact dgrown_Us (Us_of_InK hA.inK) _
  obtain ⟨b1, o1, rfl⟩ := hE1.form (by omega)
  refine wl1 H13 (r_assign rfl) rfl rfl rfl rfl fun a14 H14 => ?_
  clear H13 a13
  refine wl_end ?_
  refine th_n ?_
  refine wpIn_seq ?_
  refine w_reg ?_
  refine wl1 H14 (r_idxA Try.underlying24 sz23 rfl rfl (i := 1) rfl (by omega)) rfl rfl rfl rfl fun a15 H15 => ?_
  clear H14 a14
  refine wl1 H15 (r_load sc23 rfl (hB4.cell rfl)) rfl rfl rfl rfl fun a16 H16 => ?_
  clear H15 a15
  first | refine wl1 H16 (r_convk Try.underlying23 Try.underlying3 rfl (by simp only [InK]; omega)) rfl rfl rfl rfl fun a17 H17 => ?_ | refine wl1 H16 (r_conv Try.underlying23 Try.underlying3 rfl) rfl rfl rfl rfl fun a17 H17 => ?_
  clear H16 a16
  refine wl1 H17 (r_move rfl) rfl rfl rfl rfl fun a18 H18 => ?_
  clear H17 a17
  refine wl1 H18 (r_len Try.underlying22 rfl) rfl rfl rfl rfl fun a19 H19 => ?_
  clear H18 a18
  refine wl1 H19 (r_remk rfl rfl (by omega) (by omega)) rfl rfl rfl rfl fun a20 H20 => ?_
  clear H19 a19
  obtain ⟨i, hi0⟩ : ∃ n : Nat, k1 % (d.length : Int) = (n : Int) := ⟨(k1 % (d.length : Int)).toNat, by have := Int.emod_nonneg k1 (show (d.length : Int) ≠ 0 by omega); omega⟩
  have hi : i < d.length := by have := Int.emod_lt_of_pos k1 (show (0 : Int) < (d.length : Int) by omega); omega
  rw [hi0] at H20
  refine wl1 H20 (r_assign rfl) rfl rfl rfl rfl fun a21 H21 => ?_
  clear H20 a20
  refine wl_end ?_
  refine th_n ?_
  refine wpIn_seq ?_
  refine w_reg ?_
  refine wl1 H21 (r_move rfl) rfl rfl rfl rfl fun a22 H22 => ?_
  clear H21 a21
  refine wlc  H22 rfl rfl hb13 rfl (br_root hN.sat hE1 (by omega) hc1) fun v w4 hR a23 H23 => ?_
  clear H22 a22
  obtain ⟨rfl, gw4⟩ := hR
  have hN := hN.ofGr gw4
  replace hB4 := hB4.gr gw4
  refine wl1 H23 (r_move rfl) rfl rfl rfl rfl fun a24 H24 => ?_
  clear H23 a23
  refine wl1 H24 (r_move rfl) rfl rfl rfl rfl fun a25 H25 => ?_
  clear H24 a24
  refine wlc  H25 rfl rfl hb11 rfl (br_pathOf (i := (i : Int)) hN.sat hE1 (by omega) hc1) fun v w5 hR a26 H26 => ?_
  clear H25 a25
  obtain ⟨J5, nw5, ⟨A2, c2, rfl, hc2, hE2⟩⟩ := hR
  replace hA := hA.up nw5.le
  replace hE1 := hE1.up nw5.le
  replace hB4 := hB4.next nw5
  have hN := hN.trans nw5
  have hI : dpathI d (i : Int) = dpath d i := by unfold dpathI; rw [if_pos (by omega)]; rfl
  have hIE : dpathE d (i : Int) = 0 := if_pos (by omega)
  rw [hIE] at H26
  rw [hI] at H26 hc2 hE2
  obtain ⟨P, hP⟩ : ∃ p, p = dpath d i := ⟨_, rfl⟩
  rw [← hP] at H26 hc2 hE2
  have hPl : P.length ≤ d.length := by rw [hP]; exact dpath_len _ _ _ (Nat.le_refl _)
  refine s_alloc H26 zv29 rfl hN fun w6 b11 hN gw6 hB11 hgeb11 heb11 a27 H27 => ?_
  clear H26 a26
  replace hB11 : Box _ _ _ [.slice none 0 0, .int .i64 0] 29 := hB11
  have hne_hB4_b11 := hB4.lt
  rw [← heb11] at hne_hB4_b11
  replace hB4 := hB4.gr gw6
  refine wl1 H27 (r_assign rfl) rfl rfl rfl rfl fun a28 H28 => ?_
  clear H27 a27
  refine s_storeA (vs := [_, _]) H28 sz29 (by simp) (by simp [Value.oneCell']) rfl rfl hN hB11 (by simp) hgeb11 fun w7 hN hB11 ew7 H29 => ?_
  clear H28
  replace hB4 := hB4.otherE ew7 (by omega)
  simp only [Nat.zero_add, Nat.add_zero, Nat.reduceAdd, Nat.reduceMul, List.set_cons_zero, List.set_cons_succ, spliceL] at hB11
  clear ew7
  refine wl_end ?_
  refine th_n ?_
  refine wpIn_seq ?_
  refine w_reg ?_
  refine wl1 H29 (r_move rfl) rfl rfl rfl rfl fun a29 H30 => ?_
  clear H29 a28
  refine wl1 H30 (r_move rfl) rfl rfl rfl rfl fun a30 H31 => ?_
  clear H30 a29
  refine wl1 H31 (r_len Try.underlying22 rfl) rfl rfl rfl rfl fun a31 H32 => ?_
  clear H31 a30
  refine wl1 H32 (r_fld fld29_0 rfl) rfl rfl rfl rfl fun a32 H33 => ?_
  clear H32 a31
  refine wl1 H33 (r_load sc22 rfl (hB11.cell rfl)) rfl rfl rfl rfl fun a33 H34 => ?_
  clear H33 a32
  refine wl1 H34 (r_len Try.underlying22 rfl) rfl rfl rfl rfl fun a34 H35 => ?_
  clear H34 a33
  refine wl1 H35 (r_min rfl rfl) rfl rfl rfl rfl fun a35 H36 => ?_
  clear H35 a34
  refine wl1 H36 (r_upto (hi := min l.length P.length) Try.underlying22 sz33 rfl rfl (by omega) (by omega)) rfl rfl rfl rfl fun a36 H37 => ?_
  clear H36 a35
  obtain ⟨pt, hpt⟩ : ∃ p, p = l.take (min l.length P.length) := ⟨_, rfl⟩
  have hptl : pt.length = min l.length P.length := by rw [hpt]; simp
  have hEp : Els (kInt .u64) J5 A pt := by rw [hpt]; exact hA.take _
  rw [← hptl] at H37
  refine wl1 H37 (r_assign rfl) rfl rfl rfl rfl fun a37 H38 => ?_
  clear H37 a36
  refine wl_end ?_
  refine th_n ?_
  refine wpIn_seq ?_
  refine wpIn_seq ?_
  refine w_reg ?_
  refine wl1 H38 (r_fld fld29_1 rfl) rfl rfl rfl rfl fun a38 H39 => ?_
  clear H38 a37
  refine wl1 H39 (r_load sc27 rfl (hB11.cell rfl)) rfl rfl rfl rfl fun a39 H40 => ?_
  clear H39 a38
  refine wl1 H40 (r_neq rfl rfl) rfl rfl rfl rfl fun a40 H41 => ?_
  clear H40 a39
  replace H41 := H41.known (t := 51) (b := false) rfl (by simp)
  refine wl1 H41 (r_move rfl) rfl rfl rfl rfl fun a41 H42 => ?_
  clear H41 a40
  refine wl_on (d := 52) H42 rfl rfl rfl ?_
  refine wl1 H42 (r_move rfl) rfl rfl rfl rfl fun a42 H43 => ?_
  clear H42 a41
  refine wl_on (d := 52) H43 rfl rfl rfl ?_
  refine wl1 H43 (r_move rfl) rfl rfl rfl rfl fun a43 H44 => ?_
  clear H43 a42
  refine wl_on (d := 52) H44 rfl rfl rfl ?_
  refine wl1 H44 (r_len Try.underlying22 rfl) rfl rfl rfl rfl fun a44 H45 => ?_
  clear H44 a43
  refine wl_on (d := 52) H45 rfl rfl rfl ?_
  refine wl1 H45 (r_move rfl) rfl rfl rfl rfl fun a45 H46 => ?_
  clear H45 a44
  refine wl_on (d := 52) H46 rfl rfl rfl ?_
  refine wl1 H46 (r_build (v := .agg #[.int .i64 (d.length : Int), .slice A pt.length c]) rfl (fun w => by kernel_rfl)) rfl rfl rfl rfl fun a46 H47 => ?_
  clear H46 a45
  refine wl_on (d := 52) H47 rfl rfl rfl ?_
  refine wl1 H47 (r_move rfl) rfl rfl rfl rfl fun a47 H48 => ?_
  clear H47 a46
  refine wl_on (d := 52) H48 rfl rfl rfl ?_
  refine wl1 H48 (r_move rfl) rfl rfl rfl rfl fun a48 H49 => ?_
  clear H48 a47
  refine wl_on (d := 52) H49 rfl rfl rfl ?_
  refine wl1 H49 (r_build (v := .agg #[.int .i64 (i : Int), .int .u64 y]) rfl (fun w => by kernel_rfl)) rfl rfl rfl rfl fun a49 H50 => ?_
  clear H49 a48
  refine wl_on (d := 52) H50 rfl rfl rfl ?_
  refine wlc  H50 rfl rfl hb12 rfl (br_check hN.sat hEp (by omega)) fun v w8 hR a50 H51 => ?_
  clear H50 a49
  obtain ⟨rfl, gw8⟩ := hR
  have hN := hN.ofGr gw8
  replace hB4 := hB4.gr gw8
  replace hB11 := hB11.gr gw8
  refine wl_on (d := 52) H51 rfl rfl rfl ?_
  refine wl1 H51 (r_neq rfl rfl) rfl rfl rfl rfl fun a51 H52 => ?_
  clear H51 a50
  refine wl1 H52 (r_pick_f rfl rfl) rfl rfl rfl rfl fun a52 H53 => ?_
  clear H52 a51
  refine wl_end ?_
  refine th_n ?_
  first | refine w_if H53 rfl (fun hc63 => ?_) (fun hc63 => ?_) | refine w_cond H53 rfl (fun hc63 => ?_) (fun hc63 => ?_)
  ·
    try simp only [decide_eq_true_eq, decide_eq_false_iff_not, Bool.or_eq_true, Bool.and_eq_true, Bool.or_eq_false_iff, Bool.and_eq_false_iff, Bool.not_eq_true', Bool.not_eq_false', Int.not_lt, Int.not_le, ne_eq, Decidable.not_not] at hc63
    refine wpIn_seq ?_
    refine w_reg ?_
    refine wl1 H53 (r_fld fld29_1 rfl) rfl rfl rfl rfl fun a53 H54 => ?_
    clear H53 a52
    refine wl1 H54 (r_load sc27 rfl (hB11.cell rfl)) rfl rfl rfl rfl fun a54 H55 => ?_
    clear H54 a53
    refine wl1 H55 (r_eql rfl rfl) rfl rfl rfl rfl fun a55 H56 => ?_
    clear H55 a54
    replace H56 := H56.known (t := 66) (b := true) rfl (by simp)
    refine wl1 H56 (r_move rfl) rfl rfl rfl rfl fun a56 H57 => ?_
    clear H56 a55
    refine wl_on (d := 67) H57 rfl rfl rfl ?_
    refine wl1 H57 (r_move rfl) rfl rfl rfl rfl fun a57 H58 => ?_
    clear H57 a56
    refine wl1 H58 (r_pick_t rfl rfl) rfl rfl rfl rfl fun a58 H59 => ?_
    clear H58 a57
    refine wl1 H59 (r_assign rfl) rfl rfl rfl rfl fun a59 H60 => ?_
    clear H59 a58
    refine wl_end ?_
    refine th_n ?_
    refine wpIn_ret ?_
    refine th_r ?_
    refine fin_r H60 (res1 rfl H60 rfl) ?_
    exact ⟨rfl, hN.gr⟩
  ·
    try simp only [decide_eq_true_eq, decide_eq_false_iff_not, Bool.or_eq_true, Bool.and_eq_true, Bool.or_eq_false_iff, Bool.and_eq_false_iff, Bool.not_eq_true', Bool.not_eq_false', Int.not_lt, Int.not_le, ne_eq, Decidable.not_not] at hc63
    refine wpIn_skip ?_
    refine th_n ?_
    refine wpIn_seq ?_
    refine w_reg ?_
    refine wl1 H53 (r_move rfl) rfl rfl rfl rfl fun a53 H61 => ?_
    clear H53 a52
    refine wl1 H61 (r_len Try.underlying22 rfl) rfl rfl rfl rfl fun a54 H62 => ?_
    clear H61 a53
    refine wl1 H62 (r_move rfl) rfl rfl rfl rfl fun a55 H63 => ?_
    clear H62 a54
    refine wlc  H63 rfl rfl hb15 rfl (br_sides hN.sat (by omega) hi rfl rfl) fun v w9 hR a56 H64 => ?_
    clear H63 a55
    obtain ⟨J9, nw9, ⟨A3, c3, rfl, hc3, hE3⟩⟩ := hR
    replace hA := hA.up nw9.le
    replace hE1 := hE1.up nw9.le
    replace hE2 := hE2.up nw9.le
    replace hEp := hEp.up nw9.le
    replace hB4 := hB4.next nw9
    replace hB11 := hB11.next nw9
    have hN := hN.trans nw9
    obtain ⟨S, hSd⟩ : ∃ s, s = dsides d.length i := ⟨_, rfl⟩
    rw [← hSd] at H64 hc3 hE3
    obtain ⟨hSP, hpS, hfg, hfh⟩ := binds_end hi (by omega) hP hSd hc63
    obtain ⟨g0, hg0⟩ : ∃ g, g = d[i] := ⟨_, rfl⟩
    rw [← hg0] at hfg
    refine wl1 H64 (r_assign rfl) rfl rfl rfl rfl fun a57 H65 => ?_
    clear H64 a56
    refine wl_end ?_
    refine th_n ?_
    refine wpIn_seq ?_
    refine wpIn_seq ?_
    refine w_reg ?_
    refine wl1 H65 (r_move rfl) rfl rfl rfl rfl fun a58 H66 => ?_
    clear H65 a57
    refine wl1 H66 (r_len Try.underlying22 rfl) rfl rfl rfl rfl fun a59 H67 => ?_
    clear H66 a58
    refine wl1 H67 (r_move rfl) rfl rfl rfl rfl fun a60 H68 => ?_
    clear H67 a59
    refine wl1 H68 (r_len Try.underlying44 rfl) rfl rfl rfl rfl fun a61 H69 => ?_
    clear H68 a60
    refine wl1 H69 (r_neq rfl rfl) rfl rfl rfl rfl fun a62 H70 => ?_
    clear H69 a61
    replace H70 := H70.known (t := 78) (b := false) rfl (by simp; omega)
    refine wl1 H70 (r_move rfl) rfl rfl rfl rfl fun a63 H71 => ?_
    clear H70 a62
    refine wl_on (d := 79) H71 rfl rfl rfl ?_
    refine wl1 H71 (r_fld fld29_0 rfl) rfl rfl rfl rfl fun a64 H72 => ?_
    clear H71 a63
    refine wl_on (d := 79) H72 rfl rfl rfl ?_
    refine wl1 H72 (r_load sc22 rfl (hB11.cell rfl)) rfl rfl rfl rfl fun a65 H73 => ?_
    clear H72 a64
    refine wl_on (d := 79) H73 rfl rfl rfl ?_
    refine wl1 H73 (r_len Try.underlying22 rfl) rfl rfl rfl rfl fun a66 H74 => ?_
    clear H73 a65
    refine wl_on (d := 79) H74 rfl rfl rfl ?_
    refine wl1 H74 (r_move rfl) rfl rfl rfl rfl fun a67 H75 => ?_
    clear H74 a66
    refine wl_on (d := 79) H75 rfl rfl rfl ?_
    refine wl1 H75 (r_len Try.underlying44 rfl) rfl rfl rfl rfl fun a68 H76 => ?_
    clear H75 a67
    refine wl_on (d := 79) H76 rfl rfl rfl ?_
    refine wl1 H76 (r_neq rfl rfl) rfl rfl rfl rfl fun a69 H77 => ?_
    clear H76 a68
    replace H77 := H77.known (t := 85) (b := false) rfl (by simp; omega)
    refine wl1 H77 (r_pick_f rfl rfl) rfl rfl rfl rfl fun a70 H78 => ?_
    clear H77 a69
    refine wl_end ?_
    refine th_n ?_
    refine w_ff H78 rfl rfl ?_
    refine wpIn_skip ?_
    refine th_n ?_
    refine wpIn_seq ?_
    refine w_reg ?_
    refine wl1 H78 (r_move rfl) rfl rfl rfl rfl fun a71 H79 => ?_
    clear H78 a70
    refine wl1 H79 (r_move rfl) rfl rfl rfl rfl fun a72 H80 => ?_
    clear H79 a71
    refine wl1 H80 (r_idx Try.underlying22 sz33 rfl rfl (i := i) rfl (by omega)) rfl rfl rfl rfl fun a73 H81 => ?_
    clear H80 a72
    refine wl1 H81 (r_load sc33 rfl (hN.sat.cell (hE1.num (j := i) hi).1)) rfl rfl rfl rfl fun a74 H82 => ?_
    clear H81 a73
    rw [← hg0] at H82
    refine wl1 H82 (r_move rfl) rfl rfl rfl rfl fun a75 H83 => ?_
    clear H82 a74
    refine wl1 H83 (r_assign rfl) rfl rfl rfl rfl fun a76 H84 => ?_
    clear H83 a75
    refine wl1 H84 (r_assign rfl) rfl rfl rfl rfl fun a77 H85 => ?_
    clear H84 a76
    refine wl_end ?_
    refine th_n ?_
    refine wpIn_seq ?_
    refine w_reg ?_
    refine wl1 H85 (r_move rfl) rfl rfl rfl rfl fun a78 H86 => ?_
    clear H85 a77
    refine wl1 H86 (r_move rfl) rfl rfl rfl rfl fun a79 H87 => ?_
    clear H86 a78
    refine wl1 H87 (r_eql rfl rfl) rfl rfl rfl rfl fun a80 H88 => ?_
    clear H87 a79
    refine wl1 H88 (r_assign rfl) rfl rfl rfl rfl fun a81 H89 => ?_
    clear H88 a80
    refine wl_end ?_
    refine th_n ?_
    refine wpIn_seq ?_
    refine wpIn_seq ?_
    refine w_reg ?_
    refine wl1 H89 (r_assign rfl) rfl rfl rfl rfl fun a82 H90 => ?_
    clear H89 a81
    refine wl_end ?_
    refine th_n ?_
    refine wpIn_block ?_
    refine w_loop (ι := (Nat × Bool) × Im) (fun xJ => (fun x => [(17, .int .i64 (x.1 : Int)), (14, .int .u64 (dfoldUp g0 (P.take x.1) (S.take x.1))), (15, .int .u64 (dfoldUp y (pt.take x.1) (S.take x.1))), (16, .bool x.2)]) xJ.1) (fun xJ W => Im.le J9 xJ.2 ∧ New I w xJ.2 W ∧ (fun x (J : Im) => x.1 ≤ S.length ∧ (x.2 = true ↔ (g0 = y ∧ P.take x.1 = pt.take x.1)) ∧ (dfoldUp g0 (P.take x.1) (S.take x.1) = dfoldUp y (pt.take x.1) (S.take x.1) → g0 = y ∧ P.take x.1 = pt.take x.1) ∧ Box J W b11 [.slice A2 P.length c2, .int .i64 0] 29) xJ.1 xJ.2) (fun xJ => (fun x => S.length - x.1) xJ.1) (l0 := [(7, _), (11, _), (12, _), (13, _)]) ((0, _), J9) H90 ⟨rfl, rfl, rfl, rfl, rfl, rfl, rfl, rfl, trivial⟩ ⟨Im.le.refl _, hN, Nat.zero_le _, (by show decide (g0 = y) = true ↔ _; simp), (fun h => ⟨h, rfl⟩), hB11⟩ ?_
    rintro ⟨⟨j, e⟩, J10⟩ a83 w10 H91 ⟨hleJ1, hN, hj, he, hcol, hB11⟩
    clear H90 a82
    simp only [List.cons_append, List.nil_append] at H91
    try dsimp only at hleJ1
    try dsimp only at hN
    replace hA := hA.up hleJ1
    replace hE1 := hE1.up hleJ1
    replace hE2 := hE2.up hleJ1
    replace hEp := hEp.up hleJ1
    replace hE3 := hE3.up hleJ1
    simp only at hj he hcol hB11 H91
    try dsimp only at hB11
    try dsimp only at hcol
    try dsimp only at he
    try dsimp only at hj
    refine wpIn_seq ?_
    refine wpIn_seq ?_
    refine w_reg ?_
    refine wl1 H91 (r_move rfl) rfl rfl rfl rfl fun a84 H92 => ?_
    clear H91 a83
    refine wl1 H92 (r_move rfl) rfl rfl rfl rfl fun a85 H93 => ?_
    clear H92 a84
    refine wl1 H93 (r_len Try.underlying44 rfl) rfl rfl rfl rfl fun a86 H94 => ?_
    clear H93 a85
    refine wl1 H94 (r_lss rfl rfl) rfl rfl rfl rfl fun a87 H95 => ?_
    clear H94 a86
    refine wl_end ?_
    refine th_n ?_
    first | refine w_if H95 rfl (fun hc98 => ?_) (fun hc98 => ?_) | refine w_cond H95 rfl (fun hc98 => ?_) (fun hc98 => ?_)
    ·
      try simp only [decide_eq_true_eq, decide_eq_false_iff_not, Bool.or_eq_true, Bool.and_eq_true, Bool.or_eq_false_iff, Bool.and_eq_false_iff, Bool.not_eq_true', Bool.not_eq_false', Int.not_lt, Int.not_le, ne_eq, Decidable.not_not] at hc98
      have hjS : j < S.length := by omega
      have hjP : j < P.length := by omega
      have hjp : j < pt.length := by omega
      obtain ⟨b2, o2, rfl⟩ := hE2.form (by omega)
      obtain ⟨b3, o3, rfl⟩ := hE3.form (by omega)
      obtain ⟨b5, o5, rfl⟩ := hEp.form (by omega)
      refine wpIn_skip ?_
      refine th_n ?_
      refine wpIn_seq ?_
      refine wpIn_block ?_
      refine wpIn_seq ?_
      have hS0 := hN.sat
      have hNsz18 := hN.gr.size
      refine w_drawE (m := 20) (l0 := [(7, _), (11, _), (12, _), (13, _), (14, _), (15, _), (16, _), (17, _)]) hfol H95 ⟨rfl, rfl, rfl, rfl, rfl, rfl, rfl, rfl, trivial⟩ (by kernel_rfl) ?_
      refine ⟨_, false, (fun σ ι w1 hg hd hon => by
          exact OpOK.sub (r := [(7, _), (11, _), (12, _), (13, _), (14, _), (15, _), (16, _), (17, _)]) ⟨rfl, rfl, rfl, rfl, rfl, rfl, rfl, rfl, trivial⟩ (by
            exact OpOK.eq (r_move rfl))
          ), (fun _ _ _ _ _ _ h => h), (FreeR.no _), ?_⟩
      refine ⟨_, false, (fun σ ι w1 hg hd hon => by
          exact OpOK.sub (r := [(7, _), (11, _), (12, _), (13, _), (14, _), (15, _), (16, _), (17, _)]) ⟨rfl, rfl, rfl, rfl, rfl, rfl, rfl, rfl, trivial⟩ (by
            exact OpOK.eq (r_fld fld29_0 rfl))
          ), (fun _ _ _ _ _ _ h => h), (FreeR.no _), ?_⟩
      refine ⟨_, false, (fun σ ι w1 hg hd hon => by
          have hN := hN.ofGr ((Gr.refl _).drew.trans hg)
          have hB11 := hB11.gr ((Gr.refl _).drew.trans hg)
          have f1 := hd 1 (by decide) _ rfl
          have e1 : σ 1 = _ := f1.1 trivial
          exact OpOK.sub (r := [(102, _), (7, _), (11, _), (12, _), (13, _), (14, _), (15, _), (16, _), (17, _)]) ⟨congrArg some e1, rfl, rfl, rfl, rfl, rfl, rfl, rfl, rfl, trivial⟩ (by
            exact OpOK.eq (r_load sc22 rfl (hB11.cell rfl)))
          ), (fun _ _ _ _ _ _ h => h), (FreeR.no _), ?_⟩
      refine ⟨_, false, (fun σ ι w1 hg hd hon => by
          exact OpOK.sub (r := [(7, _), (11, _), (12, _), (13, _), (14, _), (15, _), (16, _), (17, _)]) ⟨rfl, rfl, rfl, rfl, rfl, rfl, rfl, rfl, trivial⟩ (by
            exact OpOK.eq (r_move rfl))
          ), (fun _ _ _ _ _ _ h => h), (FreeR.no _), ?_⟩
      refine ⟨_, false, (fun σ ι w1 hg hd hon => by
          have f2 := hd 2 (by decide) _ rfl
          have f3 := hd 3 (by decide) _ rfl
          have e2 : σ 2 = _ := f2.1 trivial
          have e3 : σ 3 = _ := f3.1 trivial
          exact OpOK.sub (r := [(103, _), (104, _), (7, _), (11, _), (12, _), (13, _), (14, _), (15, _), (16, _), (17, _)]) ⟨congrArg some e2, congrArg some e3, rfl, rfl, rfl, rfl, rfl, rfl, rfl, rfl, trivial⟩ (by
            exact OpOK.eq (r_idx Try.underlying22 sz33 rfl rfl (i := j) rfl (by omega)))
          ), (fun _ _ _ _ _ _ h => h), (FreeR.no _), ?_⟩
      refine ⟨_, false, (fun σ ι w1 hg hd hon => by
          have hN := hN.ofGr ((Gr.refl _).drew.trans hg)
          have hB11 := hB11.gr ((Gr.refl _).drew.trans hg)
          have f4 := hd 4 (by decide) _ rfl
          have e4 : σ 4 = _ := f4.1 trivial
          exact OpOK.sub (r := [(105, _), (7, _), (11, _), (12, _), (13, _), (14, _), (15, _), (16, _), (17, _)]) ⟨congrArg some e4, rfl, rfl, rfl, rfl, rfl, rfl, rfl, rfl, trivial⟩ (by
            exact OpOK.eq (r_load sc33 rfl (hN.sat.cell (hE2.num (j := j) hjP).1)))
          ), (fun _ _ _ _ _ _ h => h), (FreeR.no _), ?_⟩
      refine ⟨_, false, (fun σ ι w1 hg hd hon => by
          exact OpOK.sub (r := [(7, _), (11, _), (12, _), (13, _), (14, _), (15, _), (16, _), (17, _)]) ⟨rfl, rfl, rfl, rfl, rfl, rfl, rfl, rfl, trivial⟩ (by
            exact OpOK.eq (r_move rfl))
          ), (fun _ _ _ _ _ _ h => h), (FreeR.no _), ?_⟩
      refine ⟨_, false, (fun σ ι w1 hg hd hon => by
          exact OpOK.sub (r := [(7, _), (11, _), (12, _), (13, _), (14, _), (15, _), (16, _), (17, _)]) ⟨rfl, rfl, rfl, rfl, rfl, rfl, rfl, rfl, trivial⟩ (by
            exact OpOK.eq (r_move rfl))
          ), (fun _ _ _ _ _ _ h => h), (FreeR.no _), ?_⟩
      refine ⟨_, false, (fun σ ι w1 hg hd hon => by
          have f6 := hd 6 (by decide) _ rfl
          have f7 := hd 7 (by decide) _ rfl
          have e6 : σ 6 = _ := f6.1 trivial
          have e7 : σ 7 = _ := f7.1 trivial
          exact OpOK.sub (r := [(107, _), (108, _), (7, _), (11, _), (12, _), (13, _), (14, _), (15, _), (16, _), (17, _)]) ⟨congrArg some e6, congrArg some e7, rfl, rfl, rfl, rfl, rfl, rfl, rfl, rfl, trivial⟩ (by
            exact OpOK.eq (r_idx Try.underlying44 sz4 rfl rfl (i := j) rfl (by omega)))
          ), (fun _ _ _ _ _ _ h => h), (FreeR.no _), ?_⟩
      refine ⟨_, false, (fun σ ι w1 hg hd hon => by
          have hN := hN.ofGr ((Gr.refl _).drew.trans hg)
          have hB11 := hB11.gr ((Gr.refl _).drew.trans hg)
          have f8 := hd 8 (by decide) _ rfl
          have e8 : σ 8 = _ := f8.1 trivial
          exact OpOK.sub (r := [(109, _), (7, _), (11, _), (12, _), (13, _), (14, _), (15, _), (16, _), (17, _)]) ⟨congrArg some e8, rfl, rfl, rfl, rfl, rfl, rfl, rfl, rfl, trivial⟩ (by
            exact OpOK.eq (r_load sc4 rfl (hN.sat.cell (hE3.bool hjS))))
          ), (fun _ _ _ _ _ _ h => h), (FreeR.no _), ?_⟩
      refine ⟨_, true, (fun σ ι w1 hg hd hon => by
          have hN := hN.ofGr ((Gr.refl _).drew.trans hg)
          have hB11 := hB11.gr ((Gr.refl _).drew.trans hg)
          have f0 := hd 0 (by decide) _ rfl
          have f5 := hd 5 (by decide) _ rfl
          have f9 := hd 9 (by decide) _ rfl
          have e0 : σ 0 = _ := f0.1 trivial
          have e5 : σ 5 = _ := f5.1 trivial
          have e9 : σ 9 = _ := f9.1 trivial
          skip
          exact CallOK.sub (r := [(101, _), (106, _), (110, _), (7, _), (11, _), (12, _), (13, _), (14, _), (15, _), (16, _), (17, _)]) ⟨congrArg some e0, congrArg some e5, congrArg some e9, rfl, rfl, rfl, rfl, rfl, rfl, rfl, rfl, trivial⟩ (by
            exact CallOK.V (enters_of rfl rfl hb16) (br_up hN.sat))
          ), (fun _ _ _ _ _ _ h => h), (fun _ _ _ _ _ _ h => h), ?_⟩
      refine ⟨_, false, (fun σ ι w1 hg hd hon => by
          exact OpOK.sub (r := [(7, _), (11, _), (12, _), (13, _), (14, _), (15, _), (16, _), (17, _)]) ⟨rfl, rfl, rfl, rfl, rfl, rfl, rfl, rfl, trivial⟩ (by
            exact OpOK.eq (r_move rfl))
          ), (fun _ _ _ _ _ _ h => h), (FreeR.no _), ?_⟩
      refine ⟨_, false, (fun σ ι w1 hg hd hon => by
          exact OpOK.sub (r := [(7, _), (11, _), (12, _), (13, _), (14, _), (15, _), (16, _), (17, _)]) ⟨rfl, rfl, rfl, rfl, rfl, rfl, rfl, rfl, trivial⟩ (by
            exact OpOK.eq (r_move rfl))
          ), (fun _ _ _ _ _ _ h => h), (FreeR.no _), ?_⟩
      refine ⟨_, false, (fun σ ι w1 hg hd hon => by
          exact OpOK.sub (r := [(7, _), (11, _), (12, _), (13, _), (14, _), (15, _), (16, _), (17, _)]) ⟨rfl, rfl, rfl, rfl, rfl, rfl, rfl, rfl, trivial⟩ (by
            exact OpOK.eq (r_move rfl))
          ), (fun _ _ _ _ _ _ h => h), (FreeR.no _), ?_⟩
      refine ⟨_, false, (fun σ ι w1 hg hd hon => by
          have f12 := hd 12 (by decide) _ rfl
          have f13 := hd 13 (by decide) _ rfl
          have e12 : σ 12 = _ := f12.1 trivial
          have e13 : σ 13 = _ := f13.1 trivial
          exact OpOK.sub (r := [(113, _), (114, _), (7, _), (11, _), (12, _), (13, _), (14, _), (15, _), (16, _), (17, _)]) ⟨congrArg some e12, congrArg some e13, rfl, rfl, rfl, rfl, rfl, rfl, rfl, rfl, trivial⟩ (by
            exact OpOK.eq (r_idx Try.underlying22 sz33 rfl rfl (i := j) rfl (by omega)))
          ), (fun _ _ _ _ _ _ h => h), (FreeR.no _), ?_⟩
      refine ⟨_, false, (fun σ ι w1 hg hd hon => by
          have hN := hN.ofGr ((Gr.refl _).drew.trans hg)
          have hB11 := hB11.gr ((Gr.refl _).drew.trans hg)
          have f14 := hd 14 (by decide) _ rfl
          have e14 : σ 14 = _ := f14.1 trivial
          exact OpOK.sub (r := [(115, _), (7, _), (11, _), (12, _), (13, _), (14, _), (15, _), (16, _), (17, _)]) ⟨congrArg some e14, rfl, rfl, rfl, rfl, rfl, rfl, rfl, rfl, trivial⟩ (by
            exact OpOK.eq (r_load sc33 rfl (hN.sat.cell (hEp.num (j := j) hjp).1)))
          ), (fun _ _ _ _ _ _ h => h), (FreeR.no _), ?_⟩
      refine ⟨_, false, (fun σ ι w1 hg hd hon => by
          exact OpOK.sub (r := [(7, _), (11, _), (12, _), (13, _), (14, _), (15, _), (16, _), (17, _)]) ⟨rfl, rfl, rfl, rfl, rfl, rfl, rfl, rfl, trivial⟩ (by
            exact OpOK.eq (r_move rfl))
          ), (fun _ _ _ _ _ _ h => h), (FreeR.no _), ?_⟩
      refine ⟨_, false, (fun σ ι w1 hg hd hon => by
          exact OpOK.sub (r := [(7, _), (11, _), (12, _), (13, _), (14, _), (15, _), (16, _), (17, _)]) ⟨rfl, rfl, rfl, rfl, rfl, rfl, rfl, rfl, trivial⟩ (by
            exact OpOK.eq (r_move rfl))
          ), (fun _ _ _ _ _ _ h => h), (FreeR.no _), ?_⟩
      refine ⟨_, false, (fun σ ι w1 hg hd hon => by
          have f16 := hd 16 (by decide) _ rfl
          have f17 := hd 17 (by decide) _ rfl
          have e16 : σ 16 = _ := f16.1 trivial
          have e17 : σ 17 = _ := f17.1 trivial
          exact OpOK.sub (r := [(117, _), (118, _), (7, _), (11, _), (12, _), (13, _), (14, _), (15, _), (16, _), (17, _)]) ⟨congrArg some e16, congrArg some e17, rfl, rfl, rfl, rfl, rfl, rfl, rfl, rfl, trivial⟩ (by
            exact OpOK.eq (r_idx Try.underlying44 sz4 rfl rfl (i := j) rfl (by omega)))
          ), (fun _ _ _ _ _ _ h => h), (FreeR.no _), ?_⟩
      refine ⟨_, false, (fun σ ι w1 hg hd hon => by
          have hN := hN.ofGr ((Gr.refl _).drew.trans hg)
          have hB11 := hB11.gr ((Gr.refl _).drew.trans hg)
          have f18 := hd 18 (by decide) _ rfl
          have e18 : σ 18 = _ := f18.1 trivial
          exact OpOK.sub (r := [(119, _), (7, _), (11, _), (12, _), (13, _), (14, _), (15, _), (16, _), (17, _)]) ⟨congrArg some e18, rfl, rfl, rfl, rfl, rfl, rfl, rfl, rfl, trivial⟩ (by
            exact OpOK.eq (r_load sc4 rfl (hN.sat.cell (hE3.bool hjS))))
          ), (fun _ _ _ _ _ _ h => h), (FreeR.no _), ?_⟩
      intro σ ι a88 w12 hgw12 H96 hd hap
      skip
      have hN0 := hN
      have hN := hN.ofGr ((Gr.refl _).drew.trans hgw12)
      replace hB11 := hB11.gr ((Gr.refl _).drew.trans hgw12)
      have e10 : σ 10 = _ := (hd 10 (by decide) _ rfl).1 trivial
      have e11 : σ 11 = _ := (hd 11 (by decide) _ rfl).1 trivial
      have e15 : σ 15 = _ := (hd 15 (by decide) _ rfl).1 trivial
      have e19 : σ 19 = _ := (hd 19 (by decide) _ rfl).1 trivial
      replace H96 := H96.sub (r := [(111, _), (112, _), (116, _), (120, _), (7, _), (11, _), (12, _), (13, _), (14, _), (15, _), (16, _), (17, _)]) ⟨congrArg some e10, congrArg some e11, congrArg some e15, congrArg some e19, rfl, rfl, rfl, rfl, rfl, rfl, rfl, rfl, trivial⟩
      clear hd
      clear hap
      refine wlc  H96 rfl rfl hb16 rfl (br_up hN.sat) fun v w13 hR a89 H97 => ?_
      clear H96 a88
      obtain ⟨rfl, gw13⟩ := hR
      have hN := hN.ofGr gw13
      replace hB11 := hB11.gr gw13
      refine wl1 H97 (r_assign rfl) rfl rfl rfl rfl fun a90 H98 => ?_
      clear H97 a89
      refine wl1 H98 (r_assign rfl) rfl rfl rfl rfl fun a91 H99 => ?_
      clear H98 a90
      rw [← dfoldUp_take _ P S j hjP hjS, ← dfoldUp_take _ pt S j hjp hjS] at H99
      refine wl_end ?_
      refine th_n ?_
      refine wpIn_seq ?_
      refine wpIn_seq ?_
      have hS0 := hN.sat
      have hNsz19 := hN.gr.size
      refine w_drawE (m := 20) (l0 := [(7, _), (11, _), (12, _), (13, _), (14, _), (15, _), (16, _), (17, _), (18, _), (19, _)]) hfol H99 ⟨rfl, rfl, rfl, rfl, rfl, rfl, rfl, rfl, rfl, rfl, trivial⟩ (by kernel_rfl) ?_
      refine ⟨_, false, (fun σ ι w1 hg hd hon => by
          exact OpOK.sub (r := [(7, _), (11, _), (12, _), (13, _), (14, _), (15, _), (16, _), (17, _), (18, _), (19, _)]) ⟨rfl, rfl, rfl, rfl, rfl, rfl, rfl, rfl, rfl, rfl, trivial⟩ (by
            exact OpOK.eq (r_move rfl))
          ), (fun _ _ _ _ _ _ h => h), (FreeR.no _), ?_⟩
      refine ⟨_, false, (fun σ ι w1 hg hd hon => by
          exact OpOK.sub (r := [(7, _), (11, _), (12, _), (13, _), (14, _), (15, _), (16, _), (17, _), (18, _), (19, _)]) ⟨rfl, rfl, rfl, rfl, rfl, rfl, rfl, rfl, rfl, rfl, trivial⟩ (by
            exact OpOK.eq (r_move rfl))
          ), (fun _ _ _ _ _ _ h => h), (FreeR.no _), ?_⟩
      refine ⟨_, false, (fun σ ι w1 hg hd hon => by
          have f0 := hd 0 (by decide) _ rfl
          have f1 := hd 1 (by decide) _ rfl
          have e0 : σ 0 = _ := f0.1 trivial
          have e1 : σ 1 = _ := f1.1 trivial
          exact OpOK.sub (r := [(122, _), (123, _), (7, _), (11, _), (12, _), (13, _), (14, _), (15, _), (16, _), (17, _), (18, _), (19, _)]) ⟨congrArg some e0, congrArg some e1, rfl, rfl, rfl, rfl, rfl, rfl, rfl, rfl, rfl, rfl, trivial⟩ (by
            exact OpOK.eq (r_neq rfl rfl))
          ), (fun _ _ _ _ _ _ h => h), (FreeR.no _), ?_⟩
      refine ⟨_, false, (fun σ ι w1 hg hd hon => by
          have f2 := hd 2 (by decide) _ rfl
          have e2 : σ 2 = _ := f2.1 trivial
          exact OpOK.sub (r := [(124, _), (7, _), (11, _), (12, _), (13, _), (14, _), (15, _), (16, _), (17, _), (18, _), (19, _)]) ⟨congrArg some e2, rfl, rfl, rfl, rfl, rfl, rfl, rfl, rfl, rfl, rfl, trivial⟩ (by
            exact OpOK.eq (r_move rfl))
          ), (fun _ _ _ _ _ _ h => h), (FreeR.no _), ?_⟩
      refine ⟨_, false, (fun σ ι w1 hg hd hon => by
          have f3 := hd 3 (by decide) _ rfl
          have e3 : σ 3 = _ := f3.1 trivial
          have hgd : σ 3 = .bool false := hon
          have hgb := (f3.1 trivial : σ 3 = _).symm.trans hgd
          simp only [Value.bool.injEq] at hgb
          try simp only [decide_eq_true_eq, decide_eq_false_iff_not, Bool.or_eq_true, Bool.and_eq_true, Bool.or_eq_false_iff, Bool.and_eq_false_iff, Bool.not_eq_true', Bool.not_eq_false', Int.not_lt, Int.not_le, ne_eq, Decidable.not_not] at hgb
          exact OpOK.sub (r := [(7, _), (11, _), (12, _), (13, _), (14, _), (15, _), (16, _), (17, _), (18, _), (19, _)]) ⟨rfl, rfl, rfl, rfl, rfl, rfl, rfl, rfl, rfl, rfl, trivial⟩ (by
            exact OpOK.eq (r_fld fld29_0 rfl))
          ), (fun _ _ _ _ _ _ h => h), (FreeR.no _), ?_⟩
      refine ⟨_, false, (fun σ ι w1 hg hd hon => by
          have hN := hN.ofGr ((Gr.refl _).drew.trans hg)
          have hB11 := hB11.gr ((Gr.refl _).drew.trans hg)
          have f4 := hd 4 (by decide) _ rfl
          have f3 := hd 3 (by decide) _ rfl
          have e4 : σ 4 = _ := f4.1 hon
          have e3 : σ 3 = _ := f3.1 trivial
          have hgd : σ 3 = .bool false := hon
          have hgb := (f3.1 trivial : σ 3 = _).symm.trans hgd
          simp only [Value.bool.injEq] at hgb
          try simp only [decide_eq_true_eq, decide_eq_false_iff_not, Bool.or_eq_true, Bool.and_eq_true, Bool.or_eq_false_iff, Bool.and_eq_false_iff, Bool.not_eq_true', Bool.not_eq_false', Int.not_lt, Int.not_le, ne_eq, Decidable.not_not] at hgb
          exact OpOK.sub (r := [(126, _), (7, _), (11, _), (12, _), (13, _), (14, _), (15, _), (16, _), (17, _), (18, _), (19, _)]) ⟨congrArg some e4, rfl, rfl, rfl, rfl, rfl, rfl, rfl, rfl, rfl, rfl, trivial⟩ (by
            exact OpOK.eq (r_load sc22 rfl (hB11.cell rfl)))
          ), (fun _ _ _ _ _ _ h => h), (FreeR.no _), ?_⟩
      refine ⟨_, false, (fun σ ι w1 hg hd hon => by
          have f3 := hd 3 (by decide) _ rfl
          have e3 : σ 3 = _ := f3.1 trivial
          have hgd : σ 3 = .bool false := hon
          have hgb := (f3.1 trivial : σ 3 = _).symm.trans hgd
          simp only [Value.bool.injEq] at hgb
          try simp only [decide_eq_true_eq, decide_eq_false_iff_not, Bool.or_eq_true, Bool.and_eq_true, Bool.or_eq_false_iff, Bool.and_eq_false_iff, Bool.not_eq_true', Bool.not_eq_false', Int.not_lt, Int.not_le, ne_eq, Decidable.not_not] at hgb
          exact OpOK.sub (r := [(7, _), (11, _), (12, _), (13, _), (14, _), (15, _), (16, _), (17, _), (18, _), (19, _)]) ⟨rfl, rfl, rfl, rfl, rfl, rfl, rfl, rfl, rfl, rfl, trivial⟩ (by
            exact OpOK.eq (r_move rfl))
          ), (fun _ _ _ _ _ _ h => h), (FreeR.no _), ?_⟩
      refine ⟨_, false, (fun σ ι w1 hg hd hon => by
          have f5 := hd 5 (by decide) _ rfl
          have f6 := hd 6 (by decide) _ rfl
          have f3 := hd 3 (by decide) _ rfl
          have e5 : σ 5 = _ := f5.1 hon
          have e6 : σ 6 = _ := f6.1 hon
          have e3 : σ 3 = _ := f3.1 trivial
          have hgd : σ 3 = .bool false := hon
          have hgb := (f3.1 trivial : σ 3 = _).symm.trans hgd
          simp only [Value.bool.injEq] at hgb
          try simp only [decide_eq_true_eq, decide_eq_false_iff_not, Bool.or_eq_true, Bool.and_eq_true, Bool.or_eq_false_iff, Bool.and_eq_false_iff, Bool.not_eq_true', Bool.not_eq_false', Int.not_lt, Int.not_le, ne_eq, Decidable.not_not] at hgb
          exact OpOK.sub (r := [(127, _), (128, _), (7, _), (11, _), (12, _), (13, _), (14, _), (15, _), (16, _), (17, _), (18, _), (19, _)]) ⟨congrArg some e5, congrArg some e6, rfl, rfl, rfl, rfl, rfl, rfl, rfl, rfl, rfl, rfl, trivial⟩ (by
            exact OpOK.eq (r_idx Try.underlying22 sz33 rfl rfl (i := j) rfl (by omega)))
          ), (fun _ _ _ _ _ _ h => h), (FreeR.no _), ?_⟩
      refine ⟨_, false, (fun σ ι w1 hg hd hon => by
          have hN := hN.ofGr ((Gr.refl _).drew.trans hg)
          have hB11 := hB11.gr ((Gr.refl _).drew.trans hg)
          have f7 := hd 7 (by decide) _ rfl
          have f3 := hd 3 (by decide) _ rfl
          have e7 : σ 7 = _ := f7.1 hon
          have e3 : σ 3 = _ := f3.1 trivial
          have hgd : σ 3 = .bool false := hon
          have hgb := (f3.1 trivial : σ 3 = _).symm.trans hgd
          simp only [Value.bool.injEq] at hgb
          try simp only [decide_eq_true_eq, decide_eq_false_iff_not, Bool.or_eq_true, Bool.and_eq_true, Bool.or_eq_false_iff, Bool.and_eq_false_iff, Bool.not_eq_true', Bool.not_eq_false', Int.not_lt, Int.not_le, ne_eq, Decidable.not_not] at hgb
          exact OpOK.sub (r := [(129, _), (7, _), (11, _), (12, _), (13, _), (14, _), (15, _), (16, _), (17, _), (18, _), (19, _)]) ⟨congrArg some e7, rfl, rfl, rfl, rfl, rfl, rfl, rfl, rfl, rfl, rfl, trivial⟩ (by
            exact OpOK.eq (r_load sc33 rfl (hN.sat.cell (hE2.num (j := j) hjP).1)))
          ), (fun _ _ _ _ _ _ h => h), (FreeR.no _), ?_⟩
      refine ⟨_, false, (fun σ ι w1 hg hd hon => by
          have f3 := hd 3 (by decide) _ rfl
          have e3 : σ 3 = _ := f3.1 trivial
          have hgd : σ 3 = .bool false := hon
          have hgb := (f3.1 trivial : σ 3 = _).symm.trans hgd
          simp only [Value.bool.injEq] at hgb
          try simp only [decide_eq_true_eq, decide_eq_false_iff_not, Bool.or_eq_true, Bool.and_eq_true, Bool.or_eq_false_iff, Bool.and_eq_false_iff, Bool.not_eq_true', Bool.not_eq_false', Int.not_lt, Int.not_le, ne_eq, Decidable.not_not] at hgb
          exact OpOK.sub (r := [(7, _), (11, _), (12, _), (13, _), (14, _), (15, _), (16, _), (17, _), (18, _), (19, _)]) ⟨rfl, rfl, rfl, rfl, rfl, rfl, rfl, rfl, rfl, rfl, trivial⟩ (by
            exact OpOK.eq (r_move rfl))
          ), (fun _ _ _ _ _ _ h => h), (FreeR.no _), ?_⟩
      refine ⟨_, false, (fun σ ι w1 hg hd hon => by
          have f3 := hd 3 (by decide) _ rfl
          have e3 : σ 3 = _ := f3.1 trivial
          have hgd : σ 3 = .bool false := hon
          have hgb := (f3.1 trivial : σ 3 = _).symm.trans hgd
          simp only [Value.bool.injEq] at hgb
          try simp only [decide_eq_true_eq, decide_eq_false_iff_not, Bool.or_eq_true, Bool.and_eq_true, Bool.or_eq_false_iff, Bool.and_eq_false_iff, Bool.not_eq_true', Bool.not_eq_false', Int.not_lt, Int.not_le, ne_eq, Decidable.not_not] at hgb
          exact OpOK.sub (r := [(7, _), (11, _), (12, _), (13, _), (14, _), (15, _), (16, _), (17, _), (18, _), (19, _)]) ⟨rfl, rfl, rfl, rfl, rfl, rfl, rfl, rfl, rfl, rfl, trivial⟩ (by
            exact OpOK.eq (r_move rfl))
          ), (fun _ _ _ _ _ _ h => h), (FreeR.no _), ?_⟩
      refine ⟨_, false, (fun σ ι w1 hg hd hon => by
          have f9 := hd 9 (by decide) _ rfl
          have f10 := hd 10 (by decide) _ rfl
          have f3 := hd 3 (by decide) _ rfl
          have e9 : σ 9 = _ := f9.1 hon
          have e10 : σ 10 = _ := f10.1 hon
          have e3 : σ 3 = _ := f3.1 trivial
          have hgd : σ 3 = .bool false := hon
          have hgb := (f3.1 trivial : σ 3 = _).symm.trans hgd
          simp only [Value.bool.injEq] at hgb
          try simp only [decide_eq_true_eq, decide_eq_false_iff_not, Bool.or_eq_true, Bool.and_eq_true, Bool.or_eq_false_iff, Bool.and_eq_false_iff, Bool.not_eq_true', Bool.not_eq_false', Int.not_lt, Int.not_le, ne_eq, Decidable.not_not] at hgb
          exact OpOK.sub (r := [(131, _), (132, _), (7, _), (11, _), (12, _), (13, _), (14, _), (15, _), (16, _), (17, _), (18, _), (19, _)]) ⟨congrArg some e9, congrArg some e10, rfl, rfl, rfl, rfl, rfl, rfl, rfl, rfl, rfl, rfl, trivial⟩ (by
            exact OpOK.eq (r_idx Try.underlying22 sz33 rfl rfl (i := j) rfl (by omega)))
          ), (fun _ _ _ _ _ _ h => h), (FreeR.no _), ?_⟩
      refine ⟨_, false, (fun σ ι w1 hg hd hon => by
          have hN := hN.ofGr ((Gr.refl _).drew.trans hg)
          have hB11 := hB11.gr ((Gr.refl _).drew.trans hg)
          have f11 := hd 11 (by decide) _ rfl
          have f3 := hd 3 (by decide) _ rfl
          have e11 : σ 11 = _ := f11.1 hon
          have e3 : σ 3 = _ := f3.1 trivial
          have hgd : σ 3 = .bool false := hon
          have hgb := (f3.1 trivial : σ 3 = _).symm.trans hgd
          simp only [Value.bool.injEq] at hgb
          try simp only [decide_eq_true_eq, decide_eq_false_iff_not, Bool.or_eq_true, Bool.and_eq_true, Bool.or_eq_false_iff, Bool.and_eq_false_iff, Bool.not_eq_true', Bool.not_eq_false', Int.not_lt, Int.not_le, ne_eq, Decidable.not_not] at hgb
          exact OpOK.sub (r := [(133, _), (7, _), (11, _), (12, _), (13, _), (14, _), (15, _), (16, _), (17, _), (18, _), (19, _)]) ⟨congrArg some e11, rfl, rfl, rfl, rfl, rfl, rfl, rfl, rfl, rfl, rfl, trivial⟩ (by
            exact OpOK.eq (r_load sc33 rfl (hN.sat.cell (hEp.num (j := j) hjp).1)))
          ), (fun _ _ _ _ _ _ h => h), (FreeR.no _), ?_⟩
      refine ⟨_, false, (fun σ ι w1 hg hd hon => by
          have f8 := hd 8 (by decide) _ rfl
          have f12 := hd 12 (by decide) _ rfl
          have f3 := hd 3 (by decide) _ rfl
          have e8 : σ 8 = _ := f8.1 hon
          have e12 : σ 12 = _ := f12.1 hon
          have e3 : σ 3 = _ := f3.1 trivial
          have hgd : σ 3 = .bool false := hon
          have hgb := (f3.1 trivial : σ 3 = _).symm.trans hgd
          simp only [Value.bool.injEq] at hgb
          try simp only [decide_eq_true_eq, decide_eq_false_iff_not, Bool.or_eq_true, Bool.and_eq_true, Bool.or_eq_false_iff, Bool.and_eq_false_iff, Bool.not_eq_true', Bool.not_eq_false', Int.not_lt, Int.not_le, ne_eq, Decidable.not_not] at hgb
          exact OpOK.sub (r := [(130, _), (134, _), (7, _), (11, _), (12, _), (13, _), (14, _), (15, _), (16, _), (17, _), (18, _), (19, _)]) ⟨congrArg some e8, congrArg some e12, rfl, rfl, rfl, rfl, rfl, rfl, rfl, rfl, rfl, rfl, trivial⟩ (by
            exact OpOK.eq (r_neq rfl rfl))
          ), (fun _ _ _ _ _ _ h => h), (FreeR.no _), ?_⟩
      refine ⟨_, false, (fun σ ι w1 hg hd hon => by
          have f3 := hd 3 (by decide) _ rfl
          have f13 := hd 13 (by decide) _ rfl
          have e3 : σ 3 = _ := f3.1 trivial
          have ec : σ 3 = _ := f3.1 trivial
          exact OpOK.id (by refine OpOK.or (dc := 125) (dy := 135) (kc := σ 3) (ky := σ 13) ?_ ?_ ec (fun hb => f13.1 (by show σ 3 = _; rw [ec]; exact congrArg Value.bool hb)) <;> rfl)
          ), (fun _ _ _ _ _ _ h => h), (FreeR.no _), ?_⟩
      refine ⟨_, false, (fun σ ι w1 hg hd hon => by
          have f14 := hd 14 (by decide) _ rfl
          have e14 : σ 14 = _ := f14.1 trivial
          exact OpOK.sub (r := [(136, _), (7, _), (11, _), (12, _), (13, _), (14, _), (15, _), (16, _), (17, _), (18, _), (19, _)]) ⟨congrArg some e14, rfl, rfl, rfl, rfl, rfl, rfl, rfl, rfl, rfl, rfl, trivial⟩ (by
            exact OpOK.eq (r_move rfl))
          ), (fun _ _ _ _ _ _ h => h), (FreeR.no _), ?_⟩
      refine ⟨_, false, (fun σ ι w1 hg hd hon => by
          have f15 := hd 15 (by decide) _ rfl
          have e15 : σ 15 = _ := f15.1 trivial
          have hgd : σ 15 = .bool true := hon
          have hgb := (f15.1 trivial : σ 15 = _).symm.trans hgd
          simp only [Value.bool.injEq] at hgb
          try simp only [decide_eq_true_eq, decide_eq_false_iff_not, Bool.or_eq_true, Bool.and_eq_true, Bool.or_eq_false_iff, Bool.and_eq_false_iff, Bool.not_eq_true', Bool.not_eq_false', Int.not_lt, Int.not_le, ne_eq, Decidable.not_not] at hgb
          exact OpOK.sub (r := [(7, _), (11, _), (12, _), (13, _), (14, _), (15, _), (16, _), (17, _), (18, _), (19, _)]) ⟨rfl, rfl, rfl, rfl, rfl, rfl, rfl, rfl, rfl, rfl, trivial⟩ (by
            exact OpOK.eq (r_move rfl))
          ), (fun _ _ _ _ _ _ h => h), (FreeR.no _), ?_⟩
      refine ⟨_, false, (fun σ ι w1 hg hd hon => by
          have f15 := hd 15 (by decide) _ rfl
          have e15 : σ 15 = _ := f15.1 trivial
          have hgd : σ 15 = .bool true := hon
          have hgb := (f15.1 trivial : σ 15 = _).symm.trans hgd
          simp only [Value.bool.injEq] at hgb
          try simp only [decide_eq_true_eq, decide_eq_false_iff_not, Bool.or_eq_true, Bool.and_eq_true, Bool.or_eq_false_iff, Bool.and_eq_false_iff, Bool.not_eq_true', Bool.not_eq_false', Int.not_lt, Int.not_le, ne_eq, Decidable.not_not] at hgb
          exact OpOK.sub (r := [(7, _), (11, _), (12, _), (13, _), (14, _), (15, _), (16, _), (17, _), (18, _), (19, _)]) ⟨rfl, rfl, rfl, rfl, rfl, rfl, rfl, rfl, rfl, rfl, trivial⟩ (by
            exact OpOK.eq (r_move rfl))
          ), (fun _ _ _ _ _ _ h => h), (FreeR.no _), ?_⟩
      refine ⟨_, false, (fun σ ι w1 hg hd hon => by
          have f16 := hd 16 (by decide) _ rfl
          have f17 := hd 17 (by decide) _ rfl
          have f15 := hd 15 (by decide) _ rfl
          have e16 : σ 16 = _ := f16.1 hon
          have e17 : σ 17 = _ := f17.1 hon
          have e15 : σ 15 = _ := f15.1 trivial
          have hgd : σ 15 = .bool true := hon
          have hgb := (f15.1 trivial : σ 15 = _).symm.trans hgd
          simp only [Value.bool.injEq] at hgb
          try simp only [decide_eq_true_eq, decide_eq_false_iff_not, Bool.or_eq_true, Bool.and_eq_true, Bool.or_eq_false_iff, Bool.and_eq_false_iff, Bool.not_eq_true', Bool.not_eq_false', Int.not_lt, Int.not_le, ne_eq, Decidable.not_not] at hgb
          exact OpOK.sub (r := [(138, _), (139, _), (7, _), (11, _), (12, _), (13, _), (14, _), (15, _), (16, _), (17, _), (18, _), (19, _)]) ⟨congrArg some e16, congrArg some e17, rfl, rfl, rfl, rfl, rfl, rfl, rfl, rfl, rfl, rfl, trivial⟩ (by
            exact OpOK.eq (r_eql rfl rfl))
          ), (fun _ _ _ _ _ _ h => h), (FreeR.no _), ?_⟩
      refine ⟨_, false, (fun σ ι w1 hg hd hon => by
          have f15 := hd 15 (by decide) _ rfl
          have f18 := hd 18 (by decide) _ rfl
          have e15 : σ 15 = _ := f15.1 trivial
          have ec : σ 15 = _ := f15.1 trivial
          exact OpOK.id (by refine OpOK.and (dc := 137) (dy := 140) (kc := σ 15) (ky := σ 18) ?_ ?_ ec (fun hb => f18.1 (by show σ 15 = _; rw [ec]; exact congrArg Value.bool hb)) <;> rfl)
          ), (fun _ _ _ _ _ _ h => h), (FreeR.no _), ?_⟩
      intro σ ι a92 w15 hgw15 H100 hd hap
      skip
      have hN0 := hN
      have hN := hN.ofGr ((Gr.refl _).drew.trans hgw15)
      replace hB11 := hB11.gr ((Gr.refl _).drew.trans hgw15)
      have e19 : σ 19 = _ := (hd 19 (by decide) _ rfl).1 trivial
      replace H100 := H100.sub (r := [(141, _), (7, _), (11, _), (12, _), (13, _), (14, _), (15, _), (16, _), (17, _), (18, _), (19, _)]) ⟨congrArg some e19, rfl, rfl, rfl, rfl, rfl, rfl, rfl, rfl, rfl, rfl, trivial⟩
      clear hd
      clear hap
      refine wl_end ?_
      refine th_n ?_
      first | refine w_if H100 rfl (fun hc141 => ?_) (fun hc141 => ?_) | refine w_cond H100 rfl (fun hc141 => ?_) (fun hc141 => ?_)
      ·
        try simp only [decide_eq_true_eq, decide_eq_false_iff_not, Bool.or_eq_true, Bool.and_eq_true, Bool.or_eq_false_iff, Bool.and_eq_false_iff, Bool.not_eq_true', Bool.not_eq_false', Int.not_lt, Int.not_le, ne_eq, Decidable.not_not] at hc141
        refine wpIn_seq ?_
        refine w_reg ?_
        refine wl1 H100 (r_move rfl) rfl rfl rfl rfl fun a93 H101 => ?_
        clear H100 a92
        refine wl1 H101 (r_assign rfl) rfl rfl rfl rfl fun a94 H102 => ?_
        clear H101 a93
        refine wl_end ?_
        refine th_n ?_
        refine wpIn_ret ?_
        refine th_r ?_
        refine bl_r ?_
        refine th_r ?_
        refine th_r ?_
        refine bl_r ?_
        refine th_r ?_
        refine fin_r H102 (res1 rfl H102 rfl) ?_
        exact ⟨rfl, hN.gr⟩
      ·
        try simp only [decide_eq_true_eq, decide_eq_false_iff_not, Bool.or_eq_true, Bool.and_eq_true, Bool.or_eq_false_iff, Bool.and_eq_false_iff, Bool.not_eq_true', Bool.not_eq_false', Int.not_lt, Int.not_le, ne_eq, Decidable.not_not] at hc141
        refine wpIn_skip ?_
        refine th_n ?_
        refine wpIn_seq ?_
        have hnc : dfoldUp g0 (P.take (j + 1)) (S.take (j + 1)) = dfoldUp y (pt.take (j + 1)) (S.take (j + 1)) → dfoldUp g0 (P.take j) (S.take j) = dfoldUp y (pt.take j) (S.take j) ∧ P[j] = pt[j] := by
          intro h9
          rcases hc141 with h | h
          · exact h
          · exact absurd h9 h
        have hcol2 : dfoldUp g0 (P.take (j + 1)) (S.take (j + 1)) = dfoldUp y (pt.take (j + 1)) (S.take (j + 1)) → g0 = y ∧ P.take (j + 1) = pt.take (j + 1) := fun h9 => (eq_next hjP hjp).2 ⟨hcol (hnc h9).1, (hnc h9).2⟩
        have hS0 := hN.sat
        have hNsz21 := hN.gr.size
        refine w_drawE (m := 13) (l0 := [(7, _), (11, _), (12, _), (13, _), (14, _), (15, _), (16, _), (17, _), (18, _), (19, _)]) hfol H100 ⟨rfl, rfl, rfl, rfl, rfl, rfl, rfl, rfl, rfl, rfl, trivial⟩ (by kernel_rfl) ?_
        refine ⟨_, false, (fun σ ι w1 hg hd hon => by
            exact OpOK.sub (r := [(7, _), (11, _), (12, _), (13, _), (14, _), (15, _), (16, _), (17, _), (18, _), (19, _)]) ⟨rfl, rfl, rfl, rfl, rfl, rfl, rfl, rfl, rfl, rfl, trivial⟩ (by
              exact OpOK.eq (r_move rfl))
            ), (fun _ _ _ _ _ _ h => h), (FreeR.no _), ?_⟩
        refine ⟨_, false, (fun σ ι w1 hg hd hon => by
            have f0 := hd 0 (by decide) _ rfl
            have e0 : σ 0 = _ := f0.1 trivial
            exact OpOK.sub (r := [(143, _), (7, _), (11, _), (12, _), (13, _), (14, _), (15, _), (16, _), (17, _), (18, _), (19, _)]) ⟨congrArg some e0, rfl, rfl, rfl, rfl, rfl, rfl, rfl, rfl, rfl, rfl, trivial⟩ (by
              exact OpOK.eq (r_move rfl))
            ), (fun _ _ _ _ _ _ h => h), (FreeR.no _), ?_⟩
        refine ⟨_, false, (fun σ ι w1 hg hd hon => by
            have f1 := hd 1 (by decide) _ rfl
            have e1 : σ 1 = _ := f1.1 trivial
            have hgd : σ 1 = .bool true := hon
            have hgb := (f1.1 trivial : σ 1 = _).symm.trans hgd
            simp only [Value.bool.injEq] at hgb
            try simp only [decide_eq_true_eq, decide_eq_false_iff_not, Bool.or_eq_true, Bool.and_eq_true, Bool.or_eq_false_iff, Bool.and_eq_false_iff, Bool.not_eq_true', Bool.not_eq_false', Int.not_lt, Int.not_le, ne_eq, Decidable.not_not] at hgb
            exact OpOK.sub (r := [(7, _), (11, _), (12, _), (13, _), (14, _), (15, _), (16, _), (17, _), (18, _), (19, _)]) ⟨rfl, rfl, rfl, rfl, rfl, rfl, rfl, rfl, rfl, rfl, trivial⟩ (by
              exact OpOK.eq (r_fld fld29_0 rfl))
            ), (fun _ _ _ _ _ _ h => h), (FreeR.no _), ?_⟩
        refine ⟨_, false, (fun σ ι w1 hg hd hon => by
            have hN := hN.ofGr ((Gr.refl _).drew.trans hg)
            have hB11 := hB11.gr ((Gr.refl _).drew.trans hg)
            have f2 := hd 2 (by decide) _ rfl
            have f1 := hd 1 (by decide) _ rfl
            have e2 : σ 2 = _ := f2.1 hon
            have e1 : σ 1 = _ := f1.1 trivial
            have hgd : σ 1 = .bool true := hon
            have hgb := (f1.1 trivial : σ 1 = _).symm.trans hgd
            simp only [Value.bool.injEq] at hgb
            try simp only [decide_eq_true_eq, decide_eq_false_iff_not, Bool.or_eq_true, Bool.and_eq_true, Bool.or_eq_false_iff, Bool.and_eq_false_iff, Bool.not_eq_true', Bool.not_eq_false', Int.not_lt, Int.not_le, ne_eq, Decidable.not_not] at hgb
            exact OpOK.sub (r := [(145, _), (7, _), (11, _), (12, _), (13, _), (14, _), (15, _), (16, _), (17, _), (18, _), (19, _)]) ⟨congrArg some e2, rfl, rfl, rfl, rfl, rfl, rfl, rfl, rfl, rfl, rfl, trivial⟩ (by
              exact OpOK.eq (r_load sc22 rfl (hB11.cell rfl)))
            ), (fun _ _ _ _ _ _ h => h), (FreeR.no _), ?_⟩
        refine ⟨_, false, (fun σ ι w1 hg hd hon => by
            have f1 := hd 1 (by decide) _ rfl
            have e1 : σ 1 = _ := f1.1 trivial
            have hgd : σ 1 = .bool true := hon
            have hgb := (f1.1 trivial : σ 1 = _).symm.trans hgd
            simp only [Value.bool.injEq] at hgb
            try simp only [decide_eq_true_eq, decide_eq_false_iff_not, Bool.or_eq_true, Bool.and_eq_true, Bool.or_eq_false_iff, Bool.and_eq_false_iff, Bool.not_eq_true', Bool.not_eq_false', Int.not_lt, Int.not_le, ne_eq, Decidable.not_not] at hgb
            exact OpOK.sub (r := [(7, _), (11, _), (12, _), (13, _), (14, _), (15, _), (16, _), (17, _), (18, _), (19, _)]) ⟨rfl, rfl, rfl, rfl, rfl, rfl, rfl, rfl, rfl, rfl, trivial⟩ (by
              exact OpOK.eq (r_move rfl))
            ), (fun _ _ _ _ _ _ h => h), (FreeR.no _), ?_⟩
        refine ⟨_, false, (fun σ ι w1 hg hd hon => by
            have f3 := hd 3 (by decide) _ rfl
            have f4 := hd 4 (by decide) _ rfl
            have f1 := hd 1 (by decide) _ rfl
            have e3 : σ 3 = _ := f3.1 hon
            have e4 : σ 4 = _ := f4.1 hon
            have e1 : σ 1 = _ := f1.1 trivial
            have hgd : σ 1 = .bool true := hon
            have hgb := (f1.1 trivial : σ 1 = _).symm.trans hgd
            simp only [Value.bool.injEq] at hgb
            try simp only [decide_eq_true_eq, decide_eq_false_iff_not, Bool.or_eq_true, Bool.and_eq_true, Bool.or_eq_false_iff, Bool.and_eq_false_iff, Bool.not_eq_true', Bool.not_eq_false', Int.not_lt, Int.not_le, ne_eq, Decidable.not_not] at hgb
            exact OpOK.sub (r := [(146, _), (147, _), (7, _), (11, _), (12, _), (13, _), (14, _), (15, _), (16, _), (17, _), (18, _), (19, _)]) ⟨congrArg some e3, congrArg some e4, rfl, rfl, rfl, rfl, rfl, rfl, rfl, rfl, rfl, rfl, trivial⟩ (by
              exact OpOK.eq (r_idx Try.underlying22 sz33 rfl rfl (i := j) rfl (by omega)))
            ), (fun _ _ _ _ _ _ h => h), (FreeR.no _), ?_⟩
        refine ⟨_, false, (fun σ ι w1 hg hd hon => by
            have hN := hN.ofGr ((Gr.refl _).drew.trans hg)
            have hB11 := hB11.gr ((Gr.refl _).drew.trans hg)
            have f5 := hd 5 (by decide) _ rfl
            have f1 := hd 1 (by decide) _ rfl
            have e5 : σ 5 = _ := f5.1 hon
            have e1 : σ 1 = _ := f1.1 trivial
            have hgd : σ 1 = .bool true := hon
            have hgb := (f1.1 trivial : σ 1 = _).symm.trans hgd
            simp only [Value.bool.injEq] at hgb
            try simp only [decide_eq_true_eq, decide_eq_false_iff_not, Bool.or_eq_true, Bool.and_eq_true, Bool.or_eq_false_iff, Bool.and_eq_false_iff, Bool.not_eq_true', Bool.not_eq_false', Int.not_lt, Int.not_le, ne_eq, Decidable.not_not] at hgb
            exact OpOK.sub (r := [(148, _), (7, _), (11, _), (12, _), (13, _), (14, _), (15, _), (16, _), (17, _), (18, _), (19, _)]) ⟨congrArg some e5, rfl, rfl, rfl, rfl, rfl, rfl, rfl, rfl, rfl, rfl, trivial⟩ (by
              exact OpOK.eq (r_load sc33 rfl (hN.sat.cell (hE2.num (j := j) hjP).1)))
            ), (fun _ _ _ _ _ _ h => h), (FreeR.no _), ?_⟩
        refine ⟨_, false, (fun σ ι w1 hg hd hon => by
            have f1 := hd 1 (by decide) _ rfl
            have e1 : σ 1 = _ := f1.1 trivial
            have hgd : σ 1 = .bool true := hon
            have hgb := (f1.1 trivial : σ 1 = _).symm.trans hgd
            simp only [Value.bool.injEq] at hgb
            try simp only [decide_eq_true_eq, decide_eq_false_iff_not, Bool.or_eq_true, Bool.and_eq_true, Bool.or_eq_false_iff, Bool.and_eq_false_iff, Bool.not_eq_true', Bool.not_eq_false', Int.not_lt, Int.not_le, ne_eq, Decidable.not_not] at hgb
            exact OpOK.sub (r := [(7, _), (11, _), (12, _), (13, _), (14, _), (15, _), (16, _), (17, _), (18, _), (19, _)]) ⟨rfl, rfl, rfl, rfl, rfl, rfl, rfl, rfl, rfl, rfl, trivial⟩ (by
              exact OpOK.eq (r_move rfl))
            ), (fun _ _ _ _ _ _ h => h), (FreeR.no _), ?_⟩
        refine ⟨_, false, (fun σ ι w1 hg hd hon => by
            have f1 := hd 1 (by decide) _ rfl
            have e1 : σ 1 = _ := f1.1 trivial
            have hgd : σ 1 = .bool true := hon
            have hgb := (f1.1 trivial : σ 1 = _).symm.trans hgd
            simp only [Value.bool.injEq] at hgb
            try simp only [decide_eq_true_eq, decide_eq_false_iff_not, Bool.or_eq_true, Bool.and_eq_true, Bool.or_eq_false_iff, Bool.and_eq_false_iff, Bool.not_eq_true', Bool.not_eq_false', Int.not_lt, Int.not_le, ne_eq, Decidable.not_not] at hgb
            exact OpOK.sub (r := [(7, _), (11, _), (12, _), (13, _), (14, _), (15, _), (16, _), (17, _), (18, _), (19, _)]) ⟨rfl, rfl, rfl, rfl, rfl, rfl, rfl, rfl, rfl, rfl, trivial⟩ (by
              exact OpOK.eq (r_move rfl))
            ), (fun _ _ _ _ _ _ h => h), (FreeR.no _), ?_⟩
        refine ⟨_, false, (fun σ ι w1 hg hd hon => by
            have f7 := hd 7 (by decide) _ rfl
            have f8 := hd 8 (by decide) _ rfl
            have f1 := hd 1 (by decide) _ rfl
            have e7 : σ 7 = _ := f7.1 hon
            have e8 : σ 8 = _ := f8.1 hon
            have e1 : σ 1 = _ := f1.1 trivial
            have hgd : σ 1 = .bool true := hon
            have hgb := (f1.1 trivial : σ 1 = _).symm.trans hgd
            simp only [Value.bool.injEq] at hgb
            try simp only [decide_eq_true_eq, decide_eq_false_iff_not, Bool.or_eq_true, Bool.and_eq_true, Bool.or_eq_false_iff, Bool.and_eq_false_iff, Bool.not_eq_true', Bool.not_eq_false', Int.not_lt, Int.not_le, ne_eq, Decidable.not_not] at hgb
            exact OpOK.sub (r := [(150, _), (151, _), (7, _), (11, _), (12, _), (13, _), (14, _), (15, _), (16, _), (17, _), (18, _), (19, _)]) ⟨congrArg some e7, congrArg some e8, rfl, rfl, rfl, rfl, rfl, rfl, rfl, rfl, rfl, rfl, trivial⟩ (by
              exact OpOK.eq (r_idx Try.underlying22 sz33 rfl rfl (i := j) rfl (by omega)))
            ), (fun _ _ _ _ _ _ h => h), (FreeR.no _), ?_⟩
        refine ⟨_, false, (fun σ ι w1 hg hd hon => by
            have hN := hN.ofGr ((Gr.refl _).drew.trans hg)
            have hB11 := hB11.gr ((Gr.refl _).drew.trans hg)
            have f9 := hd 9 (by decide) _ rfl
            have f1 := hd 1 (by decide) _ rfl
            have e9 : σ 9 = _ := f9.1 hon
            have e1 : σ 1 = _ := f1.1 trivial
            have hgd : σ 1 = .bool true := hon
            have hgb := (f1.1 trivial : σ 1 = _).symm.trans hgd
            simp only [Value.bool.injEq] at hgb
            try simp only [decide_eq_true_eq, decide_eq_false_iff_not, Bool.or_eq_true, Bool.and_eq_true, Bool.or_eq_false_iff, Bool.and_eq_false_iff, Bool.not_eq_true', Bool.not_eq_false', Int.not_lt, Int.not_le, ne_eq, Decidable.not_not] at hgb
            exact OpOK.sub (r := [(152, _), (7, _), (11, _), (12, _), (13, _), (14, _), (15, _), (16, _), (17, _), (18, _), (19, _)]) ⟨congrArg some e9, rfl, rfl, rfl, rfl, rfl, rfl, rfl, rfl, rfl, rfl, trivial⟩ (by
              exact OpOK.eq (r_load sc33 rfl (hN.sat.cell (hEp.num (j := j) hjp).1)))
            ), (fun _ _ _ _ _ _ h => h), (FreeR.no _), ?_⟩
        refine ⟨_, false, (fun σ ι w1 hg hd hon => by
            have f6 := hd 6 (by decide) _ rfl
            have f10 := hd 10 (by decide) _ rfl
            have f1 := hd 1 (by decide) _ rfl
            have e6 : σ 6 = _ := f6.1 hon
            have e10 : σ 10 = _ := f10.1 hon
            have e1 : σ 1 = _ := f1.1 trivial
            have hgd : σ 1 = .bool true := hon
            have hgb := (f1.1 trivial : σ 1 = _).symm.trans hgd
            simp only [Value.bool.injEq] at hgb
            try simp only [decide_eq_true_eq, decide_eq_false_iff_not, Bool.or_eq_true, Bool.and_eq_true, Bool.or_eq_false_iff, Bool.and_eq_false_iff, Bool.not_eq_true', Bool.not_eq_false', Int.not_lt, Int.not_le, ne_eq, Decidable.not_not] at hgb
            exact OpOK.sub (r := [(149, _), (153, _), (7, _), (11, _), (12, _), (13, _), (14, _), (15, _), (16, _), (17, _), (18, _), (19, _)]) ⟨congrArg some e6, congrArg some e10, rfl, rfl, rfl, rfl, rfl, rfl, rfl, rfl, rfl, rfl, trivial⟩ (by
              exact OpOK.eq (r_eql rfl rfl))
            ), (fun _ _ _ _ _ _ h => h), (FreeR.no _), ?_⟩
        refine ⟨_, false, (fun σ ι w1 hg hd hon => by
            have f1 := hd 1 (by decide) _ rfl
            have f11 := hd 11 (by decide) _ rfl
            have e1 : σ 1 = _ := f1.1 trivial
            have ec : σ 1 = _ := f1.1 trivial
            exact OpOK.id (by refine OpOK.and (dc := 144) (dy := 154) (kc := σ 1) (ky := σ 11) ?_ ?_ ec (fun hb => f11.1 (by show σ 1 = _; rw [ec]; exact congrArg Value.bool hb)) <;> rfl)
            ), (fun _ _ _ _ _ _ h => h), (FreeR.no _), ?_⟩
        intro σ ι a93 w17 hgw17 H103 hd hap
        skip
        have hN0 := hN
        have hN := hN.ofGr ((Gr.refl _).drew.trans hgw17)
        replace hB11 := hB11.gr ((Gr.refl _).drew.trans hgw17)
        have e12 : σ 12 = _ := (hd 12 (by decide) _ rfl).1 trivial
        replace H103 := H103.sub (r := [(155, _), (7, _), (11, _), (12, _), (13, _), (14, _), (15, _), (16, _), (17, _), (18, _), (19, _)]) ⟨congrArg some e12, rfl, rfl, rfl, rfl, rfl, rfl, rfl, rfl, rfl, rfl, trivial⟩
        clear hd
        clear hap
        refine wl1 H103 (r_assign rfl) rfl rfl rfl rfl fun a94 H104 => ?_
        clear H103 a93
        refine wl_end ?_
        refine th_n ?_
        refine wpIn_seq ?_
        refine w_reg ?_
        refine wl1 H104 (r_move rfl) rfl rfl rfl rfl fun a95 H105 => ?_
        clear H104 a94
        refine wl1 H105 (r_assign rfl) rfl rfl rfl rfl fun a96 H106 => ?_
        clear H105 a95
        refine wl_end ?_
        refine th_n ?_
        refine w_reg ?_
        refine wl1 H106 (r_move rfl) rfl rfl rfl rfl fun a97 H107 => ?_
        clear H106 a96
        refine wl1 H107 (r_assign rfl) rfl rfl rfl rfl fun a98 H108 => ?_
        clear H107 a97
        refine wl_end ?_
        refine bl_n ?_
        refine th_n ?_
        refine w_reg ?_
        refine wl1 H108 (r_move rfl) rfl rfl rfl rfl fun a99 H109 => ?_
        clear H108 a98
        first | refine wl1 H109 (r_addk rfl rfl (by simp only [InK]; omega)) rfl rfl rfl rfl fun a100 H110 => ?_ | refine wl1 H109 (r_add rfl rfl) rfl rfl rfl rfl fun a100 H110 => ?_
        clear H109 a99
        refine wl1 H110 (r_assign rfl) rfl rfl rfl rfl fun a101 H111 => ?_
        clear H110 a100
        refine wl_end ?_
        exact th_n ⟨((j + 1, _), J10), (by show S.length - (j + 1) < S.length - j; omega), H111.sub ⟨rfl, rfl, rfl, rfl, rfl, rfl, rfl, rfl, trivial⟩, hleJ1, hN, by show j + 1 ≤ S.length; omega, (by rw [eq_next hjP hjp, ← he]; cases e <;> simp), hcol2, hB11⟩
    ·
      try simp only [decide_eq_true_eq, decide_eq_false_iff_not, Bool.or_eq_true, Bool.and_eq_true, Bool.or_eq_false_iff, Bool.and_eq_false_iff, Bool.not_eq_true', Bool.not_eq_false', Int.not_lt, Int.not_le, ne_eq, Decidable.not_not] at hc98
      have hj9 : j = S.length := by omega
      have het : e = true := he.2 (hcol (by rw [hj9, List.take_of_length_le (by omega), List.take_of_length_le (by omega), List.take_of_length_le (by omega), hfg, hfh]))
      refine wpIn_exit ?_
      refine th_x ?_
      refine th_x ?_
      refine bl_hit ?_
      refine th_n ?_
      refine wpIn_seq ?_
      refine w_reg ?_
      refine wl1 H95 (r_move rfl) rfl rfl rfl rfl fun a88 H112 => ?_
      clear H95 a87
      replace H112 := H112.known (t := 158) (b := true) rfl het
      refine wl1 H112 (r_move rfl) rfl rfl rfl rfl fun a89 H113 => ?_
      clear H112 a88
      refine wl_on (d := 159) H113 rfl rfl rfl ?_
      refine wl1 H113 (r_move rfl) rfl rfl rfl rfl fun a90 H114 => ?_
      clear H113 a89
      refine wl1 H114 (r_pick_t rfl rfl) rfl rfl rfl rfl fun a91 H115 => ?_
      clear H114 a90
      refine wl1 H115 (r_assign rfl) rfl rfl rfl rfl fun a92 H116 => ?_
      clear H115 a91
      refine wl_end ?_
      refine th_n ?_
      refine wpIn_ret ?_
      refine fin_r H116 (res1 rfl H116 rfl) ?_
      exact ⟨rfl, hN.gr⟩
end Go.Proofs.Ytlikefnngkokhaa
