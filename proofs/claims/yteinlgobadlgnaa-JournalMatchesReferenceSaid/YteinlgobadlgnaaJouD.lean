/- The next record of a journal. -/
import Derived.Test.YteinlgobadlgnaaJouC
import Derived.Test.YteinlgobadlgnaaJouA
set_option linter.unusedVariables false
set_option linter.unusedSimpArgs false
namespace Go.Proofs.Yteinlgobadlgnaa
open Go.RowKit


/-- The number of elements that a record says it has. -/
def jn (l : List Int) : Nat := (wordAt l 0).toNat
def recAt (l : List Int) (n : Nat) : List Int := (List.range n).map fun i => IntKind.i64.wrap (wordAt l (16 + 8 * i))
/-- A whole record begins here. -/
structure Jok (l : List Int) (key : Int) : Prop where
  h24 : 24 ≤ l.length
  n256 : wordAt l 0 ≤ 256
  len : 24 + 8 * jn l ≤ l.length
  head : wordAt l 8 = dtag key [wordAt l 0]
  sl : wordAt l (16 + 8 * jn l) = dtag key (recAt l (jn l))
theorem jn_eq {l : List Int} (h : isB l) : wordAt l 0 = (jn l : Int) := by
  have := wordAt_range h 0
  unfold jn; omega
theorem recAt_length (l : List Int) (n : Nat) : (recAt l n).length = n := by simp [recAt]
theorem recAt_inK (l : List Int) (n : Nat) : ∀ x ∈ recAt l n, InK .i64 x := by
  intro x hx
  simp only [recAt, List.mem_map] at hx
  obtain ⟨i, _, rfl⟩ := hx
  exact inK_wrap _ _
/-- The cells of the record that is being read, k elements being there. -/
def recCells (l : List Int) (n k : Nat) : List Value := ((recAt l n).take k).map (Value.int .i64) ++ List.replicate (n - k) (.int .i64 0)
theorem recCells_length {l : List Int} {n k : Nat} (h : k ≤ n) : (recCells l n k).length = n := by simp [recCells, recAt_length]; omega
theorem recCells_set {l : List Int} {n k : Nat} (h : k < n) : (recCells l n k).set (0 + k * 1) (.int .i64 (IntKind.i64.wrap (wordAt l (16 + 8 * k)))) = recCells l n (k + 1) := by
  have hk : k < (recAt l n).length := by rw [recAt_length]; exact h
  have hlen : (((recAt l n).take k).map (Value.int .i64)).length = k := by simp [recAt_length]; omega
  have e1 : List.replicate (n - k) (Value.int .i64 0) = Value.int .i64 0 :: List.replicate (n - (k + 1)) (.int .i64 0) := by
    rw [show n - k = (n - (k + 1)) + 1 by omega, List.replicate_succ]
  unfold recCells
  rw [e1, show 0 + k * 1 = k by omega, List.set_append_right _ _ (by omega), hlen, Nat.sub_self, List.set_cons_zero, List.take_succ_eq_append_getElem hk]
  simp [recAt]
theorem recCells_full (l : List Int) (n : Nat) : recCells l n n = (recAt l n).map (Value.int .i64) := by
  unfold recCells
  rw [List.take_of_length_le (by rw [recAt_length]; omega), Nat.sub_self]
  simp
theorem recCells_zero (l : List Int) (n : Nat) : List.replicate n (Value.int .i64 0) = recCells l n 0 := by simp [recCells]
def restV (A : Option Addr) (l : List Int) (c k : Nat) : Value := .slice (offS A k 1 c) (l.length - k) (c - k)
def NextPost (I : Im) (w : World) (A : Option Addr) (c bc : Nat) (l : List Int) (key : Int) (v : Value) (w' : World) : Prop :=
  (¬ Jok l key ∧ v = .tuple #[.slice none 0 0, .bool false] ∧ Gr w w') ∨
  (Jok l key ∧ ∃ J b, v = .tuple #[.slice (some ⟨b, 0, none⟩) (jn l) (jn l), .bool true] ∧ Els (kInt .i64) J (some ⟨b, 0, none⟩) (recAt l (jn l)) ∧ NewS (fun k => k = bc) I w J w' ∧
    Box J w' bc [restV A l c (24 + 8 * jn l), .int .u64 (wordAt l (16 + 8 * jn l))] 62)

set_option maxRecDepth 100000 in
set_option maxHeartbeats 2000000 in
theorem jnext {A : Option Addr} {c bc : Nat} {l : List Int} {key : Int} {I : Im} {w : World} (hS : Sat I w) (hbc : Box I w bc [.slice A l.length c, .int .u64 key] 62) (hA : Els (kInt .u8) I A l) (hlc : l.length ≤ c) (hmax : l.length ≤ 16777216) :
    Ret Try.prog 38 [.pointer (some ⟨bc, 0, none⟩)] w (NextPost I w A c bc l key) := by
  have hIB : isB l := hA.inK
  have hw0 := wordAt_range hIB 0
  have hjn := jn_eq hIB
  have hbc0 := hbc
  refine ret_of (N := 102) Try.func38 rfl rfl rfl fun a0 H0 => ?_
  have hN := New.refl hS
  simp only [argsEnv, Nat.zero_add, Nat.reduceAdd] at H0
  refine wpIn_seq ?_
  refine w_reg ?_
  refine wl1 H0 (r_assign rfl) rfl rfl rfl rfl fun a1 H1 => ?_
  clear H0 a0
  refine wl1 H1 (r_assign rfl) rfl rfl rfl rfl fun a2 H2 => ?_
  clear H1 a1
  refine wl_end ?_
  refine th_n ?_
  refine wpIn_seq ?_
  refine wpIn_seq ?_
  refine w_reg ?_
  refine wl1 H2 (r_move rfl) rfl rfl rfl rfl fun a3 H3 => ?_
  clear H2 a2
  refine wl1 H3 (r_nilCheck rfl) rfl rfl rfl rfl fun a4 H4 => ?_
  clear H3 a3
  refine wl1 H4 (r_fld fld62_0 rfl) rfl rfl rfl rfl fun a5 H5 => ?_
  clear H4 a4
  refine wl1 H5 (r_load sc22 rfl (hbc.cell rfl)) rfl rfl rfl rfl fun a6 H6 => ?_
  clear H5 a5
  refine wl1 H6 (r_len Try.underlying22 rfl) rfl rfl rfl rfl fun a7 H7 => ?_
  clear H6 a6
  refine wl1 H7 (r_lss rfl rfl) rfl rfl rfl rfl fun a8 H8 => ?_
  clear H7 a7
  refine wl_end ?_
  refine th_n ?_
  first | refine w_if H8 rfl (fun hc13 => ?_) (fun hc13 => ?_) | refine w_cond H8 rfl (fun hc13 => ?_) (fun hc13 => ?_)
  ·
    try simp only [decide_eq_true_eq, decide_eq_false_iff_not, Bool.or_eq_true, Bool.and_eq_true, Bool.or_eq_false_iff, Bool.and_eq_false_iff, Bool.not_eq_true', Bool.not_eq_false', Int.not_lt, Int.not_le, ne_eq, Decidable.not_not] at hc13
    refine wpIn_seq ?_
    refine w_reg ?_
    refine wl1 H8 (r_assign rfl) rfl rfl rfl rfl fun a9 H9 => ?_
    clear H8 a8
    refine wl1 H9 (r_assign rfl) rfl rfl rfl rfl fun a10 H10 => ?_
    clear H9 a9
    refine wl_end ?_
    refine th_n ?_
    refine wpIn_ret ?_
    refine th_r ?_
    refine fin_r H10 (res2 rfl H10 rfl rfl) ?_
    exact .inl ⟨fun h => by have := h.h24; omega, rfl, hN.gr⟩
  ·
    try simp only [decide_eq_true_eq, decide_eq_false_iff_not, Bool.or_eq_true, Bool.and_eq_true, Bool.or_eq_false_iff, Bool.and_eq_false_iff, Bool.not_eq_true', Bool.not_eq_false', Int.not_lt, Int.not_le, ne_eq, Decidable.not_not] at hc13
    refine wpIn_skip ?_
    refine th_n ?_
    refine wpIn_seq ?_
    refine w_reg ?_
    refine wl1 H8 (r_move rfl) rfl rfl rfl rfl fun a9 H11 => ?_
    clear H8 a8
    refine wl1 H11 (r_nilCheck rfl) rfl rfl rfl rfl fun a10 H12 => ?_
    clear H11 a9
    refine wl1 H12 (r_fld fld62_0 rfl) rfl rfl rfl rfl fun a11 H13 => ?_
    clear H12 a10
    refine wl1 H13 (r_load sc22 rfl (hbc.cell rfl)) rfl rfl rfl rfl fun a12 H14 => ?_
    clear H13 a11
    refine wlc  H14 rfl rfl hb41 rfl (jword (at_ := 0) hN.sat hA (by omega)) fun v w1 hR a13 H15 => ?_
    clear H14 a12
    obtain ⟨rfl, gw1⟩ := hR
    have hN := hN.ofGr gw1
    replace hbc := hbc.gr gw1
    refine wl1 H15 (r_assign rfl) rfl rfl rfl rfl fun a14 H16 => ?_
    clear H15 a13
    refine wl_end ?_
    refine th_n ?_
    refine wpIn_seq ?_
    refine wpIn_seq ?_
    have hS0 := hN.sat
    have hNsz4 := hN.gr.size
    refine w_drawE (m := 30) (l0 := [(0, _), (2, _), (3, _), (4, _)]) hfol H16 ⟨rfl, rfl, rfl, rfl, trivial⟩ (by kernel_rfl) ?_
    refine ⟨_, false, (fun σ ι w1 hg hd hon => by
        exact OpOK.sub (r := [(0, _), (2, _), (3, _), (4, _)]) ⟨rfl, rfl, rfl, rfl, trivial⟩ (by
          exact OpOK.eq (r_move rfl))
        ), (fun _ _ _ _ _ _ h => h), (FreeR.no _), ?_⟩
    refine ⟨_, false, (fun σ ι w1 hg hd hon => by
        have f0 := hd 0 (by decide) _ rfl
        have e0 : σ 0 = _ := f0.1 trivial
        exact OpOK.sub (r := [(19, _), (0, _), (2, _), (3, _), (4, _)]) ⟨congrArg some e0, rfl, rfl, rfl, rfl, trivial⟩ (by
          exact OpOK.eq (r_gtr rfl rfl))
        ), (fun _ _ _ _ _ _ h => h), (FreeR.no _), ?_⟩
    refine ⟨_, false, (fun σ ι w1 hg hd hon => by
        have f1 := hd 1 (by decide) _ rfl
        have e1 : σ 1 = _ := f1.1 trivial
        exact OpOK.sub (r := [(20, _), (0, _), (2, _), (3, _), (4, _)]) ⟨congrArg some e1, rfl, rfl, rfl, rfl, trivial⟩ (by
          exact OpOK.eq (r_move rfl))
        ), (fun _ _ _ _ _ _ h => h), (FreeR.no _), ?_⟩
    refine ⟨_, false, (fun σ ι w1 hg hd hon => by
        have f2 := hd 2 (by decide) _ rfl
        have e2 : σ 2 = _ := f2.1 trivial
        have hgd : σ 2 = .bool false := hon
        have hgb := (f2.1 trivial : σ 2 = _).symm.trans hgd
        simp only [Value.bool.injEq] at hgb
        try simp only [decide_eq_true_eq, decide_eq_false_iff_not, Bool.or_eq_true, Bool.and_eq_true, Bool.or_eq_false_iff, Bool.and_eq_false_iff, Bool.not_eq_true', Bool.not_eq_false', Int.not_lt, Int.not_le, ne_eq, Decidable.not_not] at hgb
        exact OpOK.sub (r := [(0, _), (2, _), (3, _), (4, _)]) ⟨rfl, rfl, rfl, rfl, trivial⟩ (by
          exact OpOK.eq (r_move rfl))
        ), (fun _ _ _ _ _ _ h => h), (FreeR.no _), ?_⟩
    refine ⟨_, false, (fun σ ι w1 hg hd hon => by
        have f3 := hd 3 (by decide) _ rfl
        have f2 := hd 2 (by decide) _ rfl
        have e3 : σ 3 = _ := f3.1 hon
        have e2 : σ 2 = _ := f2.1 trivial
        have hgd : σ 2 = .bool false := hon
        have hgb := (f2.1 trivial : σ 2 = _).symm.trans hgd
        simp only [Value.bool.injEq] at hgb
        try simp only [decide_eq_true_eq, decide_eq_false_iff_not, Bool.or_eq_true, Bool.and_eq_true, Bool.or_eq_false_iff, Bool.and_eq_false_iff, Bool.not_eq_true', Bool.not_eq_false', Int.not_lt, Int.not_le, ne_eq, Decidable.not_not] at hgb
        exact OpOK.sub (r := [(22, _), (0, _), (2, _), (3, _), (4, _)]) ⟨congrArg some e3, rfl, rfl, rfl, rfl, trivial⟩ (by
          exact OpOK.eq (r_nilCheck rfl))
        ), (fun _ _ _ _ _ _ h => h), (FreeR.no _), ?_⟩
    refine ⟨_, false, (fun σ ι w1 hg hd hon => by
        have f4 := hd 4 (by decide) _ rfl
        have f2 := hd 2 (by decide) _ rfl
        have e4 : σ 4 = _ := f4.1 hon
        have e2 : σ 2 = _ := f2.1 trivial
        have hgd : σ 2 = .bool false := hon
        have hgb := (f2.1 trivial : σ 2 = _).symm.trans hgd
        simp only [Value.bool.injEq] at hgb
        try simp only [decide_eq_true_eq, decide_eq_false_iff_not, Bool.or_eq_true, Bool.and_eq_true, Bool.or_eq_false_iff, Bool.and_eq_false_iff, Bool.not_eq_true', Bool.not_eq_false', Int.not_lt, Int.not_le, ne_eq, Decidable.not_not] at hgb
        exact OpOK.sub (r := [(23, _), (0, _), (2, _), (3, _), (4, _)]) ⟨congrArg some e4, rfl, rfl, rfl, rfl, trivial⟩ (by
          exact OpOK.eq (r_fld fld62_0 rfl))
        ), (fun _ _ _ _ _ _ h => h), (FreeR.no _), ?_⟩
    refine ⟨_, false, (fun σ ι w1 hg hd hon => by
        have hN := hN.ofGr ((Gr.refl _).drew.trans hg)
        have hbc := hbc.gr ((Gr.refl _).drew.trans hg)
        have f5 := hd 5 (by decide) _ rfl
        have f2 := hd 2 (by decide) _ rfl
        have e5 : σ 5 = _ := f5.1 hon
        have e2 : σ 2 = _ := f2.1 trivial
        have hgd : σ 2 = .bool false := hon
        have hgb := (f2.1 trivial : σ 2 = _).symm.trans hgd
        simp only [Value.bool.injEq] at hgb
        try simp only [decide_eq_true_eq, decide_eq_false_iff_not, Bool.or_eq_true, Bool.and_eq_true, Bool.or_eq_false_iff, Bool.and_eq_false_iff, Bool.not_eq_true', Bool.not_eq_false', Int.not_lt, Int.not_le, ne_eq, Decidable.not_not] at hgb
        exact OpOK.sub (r := [(24, _), (0, _), (2, _), (3, _), (4, _)]) ⟨congrArg some e5, rfl, rfl, rfl, rfl, trivial⟩ (by
          exact OpOK.eq (r_load sc22 rfl (hbc.cell rfl)))
        ), (fun _ _ _ _ _ _ h => h), (FreeR.no _), ?_⟩
    refine ⟨_, false, (fun σ ι w1 hg hd hon => by
        have f6 := hd 6 (by decide) _ rfl
        have f2 := hd 2 (by decide) _ rfl
        have e6 : σ 6 = _ := f6.1 hon
        have e2 : σ 2 = _ := f2.1 trivial
        have hgd : σ 2 = .bool false := hon
        have hgb := (f2.1 trivial : σ 2 = _).symm.trans hgd
        simp only [Value.bool.injEq] at hgb
        try simp only [decide_eq_true_eq, decide_eq_false_iff_not, Bool.or_eq_true, Bool.and_eq_true, Bool.or_eq_false_iff, Bool.and_eq_false_iff, Bool.not_eq_true', Bool.not_eq_false', Int.not_lt, Int.not_le, ne_eq, Decidable.not_not] at hgb
        exact OpOK.sub (r := [(25, _), (0, _), (2, _), (3, _), (4, _)]) ⟨congrArg some e6, rfl, rfl, rfl, rfl, trivial⟩ (by
          exact OpOK.eq (r_len Try.underlying22 rfl))
        ), (fun _ _ _ _ _ _ h => h), (FreeR.no _), ?_⟩
    refine ⟨_, false, (fun σ ι w1 hg hd hon => by
        have f2 := hd 2 (by decide) _ rfl
        have e2 : σ 2 = _ := f2.1 trivial
        have hgd : σ 2 = .bool false := hon
        have hgb := (f2.1 trivial : σ 2 = _).symm.trans hgd
        simp only [Value.bool.injEq] at hgb
        try simp only [decide_eq_true_eq, decide_eq_false_iff_not, Bool.or_eq_true, Bool.and_eq_true, Bool.or_eq_false_iff, Bool.and_eq_false_iff, Bool.not_eq_true', Bool.not_eq_false', Int.not_lt, Int.not_le, ne_eq, Decidable.not_not] at hgb
        exact OpOK.sub (r := [(0, _), (2, _), (3, _), (4, _)]) ⟨rfl, rfl, rfl, rfl, trivial⟩ (by
          exact OpOK.eq (r_move rfl))
        ), (fun _ _ _ _ _ _ h => h), (FreeR.no _), ?_⟩
    refine ⟨_, false, (fun σ ι w1 hg hd hon => by
        have f8 := hd 8 (by decide) _ rfl
        have f2 := hd 2 (by decide) _ rfl
        have e8 : σ 8 = _ := f8.1 hon
        have e2 : σ 2 = _ := f2.1 trivial
        have hgd : σ 2 = .bool false := hon
        have hgb := (f2.1 trivial : σ 2 = _).symm.trans hgd
        simp only [Value.bool.injEq] at hgb
        try simp only [decide_eq_true_eq, decide_eq_false_iff_not, Bool.or_eq_true, Bool.and_eq_true, Bool.or_eq_false_iff, Bool.and_eq_false_iff, Bool.not_eq_true', Bool.not_eq_false', Int.not_lt, Int.not_le, ne_eq, Decidable.not_not] at hgb
        exact OpOK.sub (r := [(27, _), (0, _), (2, _), (3, _), (4, _)]) ⟨congrArg some e8, rfl, rfl, rfl, rfl, trivial⟩ (by
          first | exact OpOK.eq (r_convk Try.underlying32 Try.underlying3 rfl (by simp only [InK]; omega)) | exact OpOK.eq (r_conv Try.underlying32 Try.underlying3 rfl))
        ), (fun _ _ _ _ _ _ h => h), (FreeR.no _), ?_⟩
    refine ⟨_, false, (fun σ ι w1 hg hd hon => by
        have f9 := hd 9 (by decide) _ rfl
        have f2 := hd 2 (by decide) _ rfl
        have e9 : σ 9 = _ := f9.1 hon
        have e2 : σ 2 = _ := f2.1 trivial
        have hgd : σ 2 = .bool false := hon
        have hgb := (f2.1 trivial : σ 2 = _).symm.trans hgd
        simp only [Value.bool.injEq] at hgb
        try simp only [decide_eq_true_eq, decide_eq_false_iff_not, Bool.or_eq_true, Bool.and_eq_true, Bool.or_eq_false_iff, Bool.and_eq_false_iff, Bool.not_eq_true', Bool.not_eq_false', Int.not_lt, Int.not_le, ne_eq, Decidable.not_not] at hgb
        exact OpOK.sub (r := [(28, _), (0, _), (2, _), (3, _), (4, _)]) ⟨congrArg some e9, rfl, rfl, rfl, rfl, trivial⟩ (by
          first | exact OpOK.eq (r_mulk rfl rfl (by simp only [InK]; omega)) | exact OpOK.eq (r_mul rfl rfl))
        ), (fun _ _ _ _ _ _ h => h), (FreeR.no _), ?_⟩
    refine ⟨_, false, (fun σ ι w1 hg hd hon => by
        have f10 := hd 10 (by decide) _ rfl
        have f2 := hd 2 (by decide) _ rfl
        have e10 : σ 10 = _ := f10.1 hon
        have e2 : σ 2 = _ := f2.1 trivial
        have hgd : σ 2 = .bool false := hon
        have hgb := (f2.1 trivial : σ 2 = _).symm.trans hgd
        simp only [Value.bool.injEq] at hgb
        try simp only [decide_eq_true_eq, decide_eq_false_iff_not, Bool.or_eq_true, Bool.and_eq_true, Bool.or_eq_false_iff, Bool.and_eq_false_iff, Bool.not_eq_true', Bool.not_eq_false', Int.not_lt, Int.not_le, ne_eq, Decidable.not_not] at hgb
        exact OpOK.sub (r := [(29, _), (0, _), (2, _), (3, _), (4, _)]) ⟨congrArg some e10, rfl, rfl, rfl, rfl, trivial⟩ (by
          first | exact OpOK.eq (r_addk rfl rfl (by simp only [InK]; omega)) | exact OpOK.eq (r_add rfl rfl))
        ), (fun _ _ _ _ _ _ h => h), (FreeR.no _), ?_⟩
    refine ⟨_, false, (fun σ ι w1 hg hd hon => by
        have f7 := hd 7 (by decide) _ rfl
        have f11 := hd 11 (by decide) _ rfl
        have f2 := hd 2 (by decide) _ rfl
        have e7 : σ 7 = _ := f7.1 hon
        have e11 : σ 11 = _ := f11.1 hon
        have e2 : σ 2 = _ := f2.1 trivial
        have hgd : σ 2 = .bool false := hon
        have hgb := (f2.1 trivial : σ 2 = _).symm.trans hgd
        simp only [Value.bool.injEq] at hgb
        try simp only [decide_eq_true_eq, decide_eq_false_iff_not, Bool.or_eq_true, Bool.and_eq_true, Bool.or_eq_false_iff, Bool.and_eq_false_iff, Bool.not_eq_true', Bool.not_eq_false', Int.not_lt, Int.not_le, ne_eq, Decidable.not_not] at hgb
        exact OpOK.sub (r := [(26, _), (30, _), (0, _), (2, _), (3, _), (4, _)]) ⟨congrArg some e7, congrArg some e11, rfl, rfl, rfl, rfl, trivial⟩ (by
          exact OpOK.eq (r_lss rfl rfl))
        ), (fun _ _ _ _ _ _ h => h), (FreeR.no _), ?_⟩
    refine ⟨_, false, (fun σ ι w1 hg hd hon => by
        have f2 := hd 2 (by decide) _ rfl
        have f12 := hd 12 (by decide) _ rfl
        have e2 : σ 2 = _ := f2.1 trivial
        have ec : σ 2 = _ := f2.1 trivial
        exact OpOK.id (by refine OpOK.or (dc := 21) (dy := 31) (kc := σ 2) (ky := σ 12) ?_ ?_ ec (fun hb => f12.1 (by show σ 2 = _; rw [ec]; exact congrArg Value.bool hb)) <;> rfl)
        ), (fun _ _ _ _ _ _ h => h), (FreeR.no _), ?_⟩
    refine ⟨_, false, (fun σ ι w1 hg hd hon => by
        have f13 := hd 13 (by decide) _ rfl
        have e13 : σ 13 = _ := f13.1 trivial
        exact OpOK.sub (r := [(32, _), (0, _), (2, _), (3, _), (4, _)]) ⟨congrArg some e13, rfl, rfl, rfl, rfl, trivial⟩ (by
          exact OpOK.eq (r_move rfl))
        ), (fun _ _ _ _ _ _ h => h), (FreeR.no _), ?_⟩
    refine ⟨_, false, (fun σ ι w1 hg hd hon => by
        have f14 := hd 14 (by decide) _ rfl
        have e14 : σ 14 = _ := f14.1 trivial
        have hgd : σ 14 = .bool false := hon
        have hgb := (f14.1 trivial : σ 14 = _).symm.trans hgd
        simp only [Value.bool.injEq] at hgb
        try simp only [decide_eq_true_eq, decide_eq_false_iff_not, Bool.or_eq_true, Bool.and_eq_true, Bool.or_eq_false_iff, Bool.and_eq_false_iff, Bool.not_eq_true', Bool.not_eq_false', Int.not_lt, Int.not_le, ne_eq, Decidable.not_not] at hgb
        exact OpOK.sub (r := [(0, _), (2, _), (3, _), (4, _)]) ⟨rfl, rfl, rfl, rfl, trivial⟩ (by
          exact OpOK.eq (r_move rfl))
        ), (fun _ _ _ _ _ _ h => h), (FreeR.no _), ?_⟩
    refine ⟨_, false, (fun σ ι w1 hg hd hon => by
        have f15 := hd 15 (by decide) _ rfl
        have f14 := hd 14 (by decide) _ rfl
        have e15 : σ 15 = _ := f15.1 hon
        have e14 : σ 14 = _ := f14.1 trivial
        have hgd : σ 14 = .bool false := hon
        have hgb := (f14.1 trivial : σ 14 = _).symm.trans hgd
        simp only [Value.bool.injEq] at hgb
        try simp only [decide_eq_true_eq, decide_eq_false_iff_not, Bool.or_eq_true, Bool.and_eq_true, Bool.or_eq_false_iff, Bool.and_eq_false_iff, Bool.not_eq_true', Bool.not_eq_false', Int.not_lt, Int.not_le, ne_eq, Decidable.not_not] at hgb
        exact OpOK.sub (r := [(34, _), (0, _), (2, _), (3, _), (4, _)]) ⟨congrArg some e15, rfl, rfl, rfl, rfl, trivial⟩ (by
          exact OpOK.eq (r_nilCheck rfl))
        ), (fun _ _ _ _ _ _ h => h), (FreeR.no _), ?_⟩
    refine ⟨_, false, (fun σ ι w1 hg hd hon => by
        have f16 := hd 16 (by decide) _ rfl
        have f14 := hd 14 (by decide) _ rfl
        have e16 : σ 16 = _ := f16.1 hon
        have e14 : σ 14 = _ := f14.1 trivial
        have hgd : σ 14 = .bool false := hon
        have hgb := (f14.1 trivial : σ 14 = _).symm.trans hgd
        simp only [Value.bool.injEq] at hgb
        try simp only [decide_eq_true_eq, decide_eq_false_iff_not, Bool.or_eq_true, Bool.and_eq_true, Bool.or_eq_false_iff, Bool.and_eq_false_iff, Bool.not_eq_true', Bool.not_eq_false', Int.not_lt, Int.not_le, ne_eq, Decidable.not_not] at hgb
        exact OpOK.sub (r := [(35, _), (0, _), (2, _), (3, _), (4, _)]) ⟨congrArg some e16, rfl, rfl, rfl, rfl, trivial⟩ (by
          exact OpOK.eq (r_fld fld62_0 rfl))
        ), (fun _ _ _ _ _ _ h => h), (FreeR.no _), ?_⟩
    refine ⟨_, false, (fun σ ι w1 hg hd hon => by
        have hN := hN.ofGr ((Gr.refl _).drew.trans hg)
        have hbc := hbc.gr ((Gr.refl _).drew.trans hg)
        have f17 := hd 17 (by decide) _ rfl
        have f14 := hd 14 (by decide) _ rfl
        have e17 : σ 17 = _ := f17.1 hon
        have e14 : σ 14 = _ := f14.1 trivial
        have hgd : σ 14 = .bool false := hon
        have hgb := (f14.1 trivial : σ 14 = _).symm.trans hgd
        simp only [Value.bool.injEq] at hgb
        try simp only [decide_eq_true_eq, decide_eq_false_iff_not, Bool.or_eq_true, Bool.and_eq_true, Bool.or_eq_false_iff, Bool.and_eq_false_iff, Bool.not_eq_true', Bool.not_eq_false', Int.not_lt, Int.not_le, ne_eq, Decidable.not_not] at hgb
        exact OpOK.sub (r := [(36, _), (0, _), (2, _), (3, _), (4, _)]) ⟨congrArg some e17, rfl, rfl, rfl, rfl, trivial⟩ (by
          exact OpOK.eq (r_load sc22 rfl (hbc.cell rfl)))
        ), (fun _ _ _ _ _ _ h => h), (FreeR.no _), ?_⟩
    refine ⟨_, true, (fun σ ι w1 hg hd hon => by
        have hN := hN.ofGr ((Gr.refl _).drew.trans hg)
        have hbc := hbc.gr ((Gr.refl _).drew.trans hg)
        have f18 := hd 18 (by decide) _ rfl
        have f14 := hd 14 (by decide) _ rfl
        have e18 : σ 18 = _ := f18.1 hon
        have e14 : σ 14 = _ := f14.1 trivial
        have hgd : σ 14 = .bool false := hon
        have hgb := (f14.1 trivial : σ 14 = _).symm.trans hgd
        simp only [Value.bool.injEq] at hgb
        try simp only [decide_eq_true_eq, decide_eq_false_iff_not, Bool.or_eq_true, Bool.and_eq_true, Bool.or_eq_false_iff, Bool.and_eq_false_iff, Bool.not_eq_true', Bool.not_eq_false', Int.not_lt, Int.not_le, ne_eq, Decidable.not_not] at hgb
        skip
        exact CallOK.sub (r := [(37, _), (0, _), (2, _), (3, _), (4, _)]) ⟨congrArg some e18, rfl, rfl, rfl, rfl, trivial⟩ (by
          exact CallOK.V (enters_of rfl rfl hb41) (jword (at_ := 8) hN.sat hA (by omega)))
        ), (fun _ _ _ _ _ _ h => h), (fun _ _ _ _ _ _ h => h), ?_⟩
    refine ⟨_, false, (fun σ ι w1 hg hd hon => by
        have f14 := hd 14 (by decide) _ rfl
        have e14 : σ 14 = _ := f14.1 trivial
        have hgd : σ 14 = .bool false := hon
        have hgb := (f14.1 trivial : σ 14 = _).symm.trans hgd
        simp only [Value.bool.injEq] at hgb
        try simp only [decide_eq_true_eq, decide_eq_false_iff_not, Bool.or_eq_true, Bool.and_eq_true, Bool.or_eq_false_iff, Bool.and_eq_false_iff, Bool.not_eq_true', Bool.not_eq_false', Int.not_lt, Int.not_le, ne_eq, Decidable.not_not] at hgb
        exact OpOK.sub (r := [(0, _), (2, _), (3, _), (4, _)]) ⟨rfl, rfl, rfl, rfl, trivial⟩ (by
          exact OpOK.eq (r_move rfl))
        ), (fun _ _ _ _ _ _ h => h), (FreeR.no _), ?_⟩
    refine ⟨_, false, (fun σ ι w1 hg hd hon => by
        have f20 := hd 20 (by decide) _ rfl
        have f14 := hd 14 (by decide) _ rfl
        have e20 : σ 20 = _ := f20.1 hon
        have e14 : σ 14 = _ := f14.1 trivial
        have hgd : σ 14 = .bool false := hon
        have hgb := (f14.1 trivial : σ 14 = _).symm.trans hgd
        simp only [Value.bool.injEq] at hgb
        try simp only [decide_eq_true_eq, decide_eq_false_iff_not, Bool.or_eq_true, Bool.and_eq_true, Bool.or_eq_false_iff, Bool.and_eq_false_iff, Bool.not_eq_true', Bool.not_eq_false', Int.not_lt, Int.not_le, ne_eq, Decidable.not_not] at hgb
        exact OpOK.sub (r := [(39, _), (0, _), (2, _), (3, _), (4, _)]) ⟨congrArg some e20, rfl, rfl, rfl, rfl, trivial⟩ (by
          exact OpOK.eq (r_nilCheck rfl))
        ), (fun _ _ _ _ _ _ h => h), (FreeR.no _), ?_⟩
    refine ⟨_, false, (fun σ ι w1 hg hd hon => by
        have f21 := hd 21 (by decide) _ rfl
        have f14 := hd 14 (by decide) _ rfl
        have e21 : σ 21 = _ := f21.1 hon
        have e14 : σ 14 = _ := f14.1 trivial
        have hgd : σ 14 = .bool false := hon
        have hgb := (f14.1 trivial : σ 14 = _).symm.trans hgd
        simp only [Value.bool.injEq] at hgb
        try simp only [decide_eq_true_eq, decide_eq_false_iff_not, Bool.or_eq_true, Bool.and_eq_true, Bool.or_eq_false_iff, Bool.and_eq_false_iff, Bool.not_eq_true', Bool.not_eq_false', Int.not_lt, Int.not_le, ne_eq, Decidable.not_not] at hgb
        exact OpOK.sub (r := [(40, _), (0, _), (2, _), (3, _), (4, _)]) ⟨congrArg some e21, rfl, rfl, rfl, rfl, trivial⟩ (by
          exact OpOK.eq (r_fld fld62_1 rfl))
        ), (fun _ _ _ _ _ _ h => h), (FreeR.no _), ?_⟩
    refine ⟨_, false, (fun σ ι w1 hg hd hon => by
        have hN := hN.ofGr ((Gr.refl _).drew.trans hg)
        have hbc := hbc.gr ((Gr.refl _).drew.trans hg)
        have f22 := hd 22 (by decide) _ rfl
        have f14 := hd 14 (by decide) _ rfl
        have e22 : σ 22 = _ := f22.1 hon
        have e14 : σ 14 = _ := f14.1 trivial
        have hgd : σ 14 = .bool false := hon
        have hgb := (f14.1 trivial : σ 14 = _).symm.trans hgd
        simp only [Value.bool.injEq] at hgb
        try simp only [decide_eq_true_eq, decide_eq_false_iff_not, Bool.or_eq_true, Bool.and_eq_true, Bool.or_eq_false_iff, Bool.and_eq_false_iff, Bool.not_eq_true', Bool.not_eq_false', Int.not_lt, Int.not_le, ne_eq, Decidable.not_not] at hgb
        exact OpOK.sub (r := [(41, _), (0, _), (2, _), (3, _), (4, _)]) ⟨congrArg some e22, rfl, rfl, rfl, rfl, trivial⟩ (by
          exact OpOK.eq (r_load sc32 rfl (hbc.cell rfl)))
        ), (fun _ _ _ _ _ _ h => h), (FreeR.no _), ?_⟩
    refine ⟨_, false, (fun σ ι w1 hg hd hon => by
        have f14 := hd 14 (by decide) _ rfl
        have e14 : σ 14 = _ := f14.1 trivial
        have hgd : σ 14 = .bool false := hon
        have hgb := (f14.1 trivial : σ 14 = _).symm.trans hgd
        simp only [Value.bool.injEq] at hgb
        try simp only [decide_eq_true_eq, decide_eq_false_iff_not, Bool.or_eq_true, Bool.and_eq_true, Bool.or_eq_false_iff, Bool.and_eq_false_iff, Bool.not_eq_true', Bool.not_eq_false', Int.not_lt, Int.not_le, ne_eq, Decidable.not_not] at hgb
        exact OpOK.sub (r := [(0, _), (2, _), (3, _), (4, _)]) ⟨rfl, rfl, rfl, rfl, trivial⟩ (by
          exact OpOK.eq (r_move rfl))
        ), (fun _ _ _ _ _ _ h => h), (FreeR.no _), ?_⟩
    refine ⟨_, false, (fun σ ι w1 hg hd hon => by
        have f24 := hd 24 (by decide) _ rfl
        have f14 := hd 14 (by decide) _ rfl
        have e24 : σ 24 = _ := f24.1 hon
        have e14 : σ 14 = _ := f14.1 trivial
        have hgd : σ 14 = .bool false := hon
        have hgb := (f14.1 trivial : σ 14 = _).symm.trans hgd
        simp only [Value.bool.injEq] at hgb
        try simp only [decide_eq_true_eq, decide_eq_false_iff_not, Bool.or_eq_true, Bool.and_eq_true, Bool.or_eq_false_iff, Bool.and_eq_false_iff, Bool.not_eq_true', Bool.not_eq_false', Int.not_lt, Int.not_le, ne_eq, Decidable.not_not] at hgb
        exact OpOK.sub (r := [(43, _), (0, _), (2, _), (3, _), (4, _)]) ⟨congrArg some e24, rfl, rfl, rfl, rfl, trivial⟩ (by
          first | exact OpOK.eq (r_convk Try.underlying32 Try.underlying3 rfl (by simp only [InK]; omega)) | exact OpOK.eq (r_conv Try.underlying32 Try.underlying3 rfl))
        ), (fun _ _ _ _ _ _ h => h), (FreeR.no _), ?_⟩
    refine ⟨_, false, (fun σ ι w1 hg hd hon => by
        have f25 := hd 25 (by decide) _ rfl
        have f14 := hd 14 (by decide) _ rfl
        have e25 : σ 25 = _ := f25.1 hon
        have e14 : σ 14 = _ := f14.1 trivial
        have hgd : σ 14 = .bool false := hon
        have hgb := (f14.1 trivial : σ 14 = _).symm.trans hgd
        simp only [Value.bool.injEq] at hgb
        try simp only [decide_eq_true_eq, decide_eq_false_iff_not, Bool.or_eq_true, Bool.and_eq_true, Bool.or_eq_false_iff, Bool.and_eq_false_iff, Bool.not_eq_true', Bool.not_eq_false', Int.not_lt, Int.not_le, ne_eq, Decidable.not_not] at hgb
        exact OpOK.sub (r := [(44, _), (0, _), (2, _), (3, _), (4, _)]) ⟨congrArg some e25, rfl, rfl, rfl, rfl, trivial⟩ (by exact OpOK.litN (q := .i64) (xs := [wordAt l 0]) Try.underlying29 sz3 zv3 rfl rfl rfl (by simp only [List.mem_singleton, InK]; rintro x rfl; omega))
        ), (fun σ v q w w' hg h => by obtain ⟨b, h1, h2⟩ := h; exact ⟨b, h1, h2.up (imOf_le hg)⟩), (FreeR.no _), ?_⟩
    refine ⟨_, true, (fun σ ι w1 hg hd hon => by
        have hN := hN.ofGr ((Gr.refl _).drew.trans hg)
        have hbc := hbc.gr ((Gr.refl _).drew.trans hg)
        have f23 := hd 23 (by decide) _ rfl
        have f26 := hd 26 (by decide) _ rfl
        have f14 := hd 14 (by decide) _ rfl
        have e23 : σ 23 = _ := f23.1 hon
        obtain ⟨b26, e26, hE26⟩ := f26.1 hon
        have e14 : σ 14 = _ := f14.1 trivial
        have hgd : σ 14 = .bool false := hon
        have hgb := (f14.1 trivial : σ 14 = _).symm.trans hgd
        simp only [Value.bool.injEq] at hgb
        try simp only [decide_eq_true_eq, decide_eq_false_iff_not, Bool.or_eq_true, Bool.and_eq_true, Bool.or_eq_false_iff, Bool.and_eq_false_iff, Bool.not_eq_true', Bool.not_eq_false', Int.not_lt, Int.not_le, ne_eq, Decidable.not_not] at hgb
        skip
        exact CallOK.sub (r := [(42, _), (45, _), (0, _), (2, _), (3, _), (4, _)]) ⟨congrArg some e23, congrArg some e26, rfl, rfl, rfl, rfl, trivial⟩ (by
          exact CallOK.V (enters_of rfl rfl hb24) (tag_ret' (I := imOf w1) (sat_imOf w1) hE26 rfl))
        ), (fun _ _ _ _ _ _ h => h), (fun _ _ _ _ _ _ h => h), ?_⟩
    refine ⟨_, false, (fun σ ι w1 hg hd hon => by
        have f19 := hd 19 (by decide) _ rfl
        have f27 := hd 27 (by decide) _ rfl
        have f14 := hd 14 (by decide) _ rfl
        have e19 : σ 19 = _ := f19.1 hon
        have e27 : σ 27 = _ := f27.1 hon
        have e14 : σ 14 = _ := f14.1 trivial
        have hgd : σ 14 = .bool false := hon
        have hgb := (f14.1 trivial : σ 14 = _).symm.trans hgd
        simp only [Value.bool.injEq] at hgb
        try simp only [decide_eq_true_eq, decide_eq_false_iff_not, Bool.or_eq_true, Bool.and_eq_true, Bool.or_eq_false_iff, Bool.and_eq_false_iff, Bool.not_eq_true', Bool.not_eq_false', Int.not_lt, Int.not_le, ne_eq, Decidable.not_not] at hgb
        exact OpOK.sub (r := [(38, _), (46, _), (0, _), (2, _), (3, _), (4, _)]) ⟨congrArg some e19, congrArg some e27, rfl, rfl, rfl, rfl, trivial⟩ (by
          exact OpOK.eq (r_neq rfl rfl))
        ), (fun _ _ _ _ _ _ h => h), (FreeR.no _), ?_⟩
    refine ⟨_, false, (fun σ ι w1 hg hd hon => by
        have f14 := hd 14 (by decide) _ rfl
        have f28 := hd 28 (by decide) _ rfl
        have e14 : σ 14 = _ := f14.1 trivial
        have ec : σ 14 = _ := f14.1 trivial
        exact OpOK.id (by refine OpOK.or (dc := 33) (dy := 47) (kc := σ 14) (ky := σ 28) ?_ ?_ ec (fun hb => f28.1 (by show σ 14 = _; rw [ec]; exact congrArg Value.bool hb)) <;> rfl)
        ), (fun _ _ _ _ _ _ h => h), (FreeR.no _), ?_⟩
    intro σ ι a15 w3 hgw3 H17 hd hap
    skip
    have hN0 := hN
    have hN := hN.ofGr ((Gr.refl _).drew.trans hgw3)
    replace hbc := hbc.gr ((Gr.refl _).drew.trans hgw3)
    have e29 : σ 29 = _ := (hd 29 (by decide) _ rfl).1 trivial
    replace H17 := H17.sub (r := [(48, _), (0, _), (2, _), (3, _), (4, _)]) ⟨congrArg some e29, rfl, rfl, rfl, rfl, trivial⟩
    clear hd
    clear hap
    refine wl_end ?_
    refine th_n ?_
    first | refine w_if H17 rfl (fun hc48 => ?_) (fun hc48 => ?_) | refine w_cond H17 rfl (fun hc48 => ?_) (fun hc48 => ?_)
    ·
      try simp only [decide_eq_true_eq, decide_eq_false_iff_not, Bool.or_eq_true, Bool.and_eq_true, Bool.or_eq_false_iff, Bool.and_eq_false_iff, Bool.not_eq_true', Bool.not_eq_false', Int.not_lt, Int.not_le, ne_eq, Decidable.not_not] at hc48
      refine wpIn_seq ?_
      refine w_reg ?_
      refine wl1 H17 (r_assign rfl) rfl rfl rfl rfl fun a16 H18 => ?_
      clear H17 a15
      refine wl1 H18 (r_assign rfl) rfl rfl rfl rfl fun a17 H19 => ?_
      clear H18 a16
      refine wl_end ?_
      refine th_n ?_
      refine wpIn_ret ?_
      refine th_r ?_
      refine fin_r H19 (res2 rfl H19 rfl rfl) ?_
      exact .inl ⟨(fun h => by have h1 := h.n256; have h2 := h.len; have h3 := h.head; rcases hc48 with (h4 | h4) | h4 <;> first | omega | exact h4 h3), rfl, hN.gr⟩
    ·
      try simp only [decide_eq_true_eq, decide_eq_false_iff_not, Bool.or_eq_true, Bool.and_eq_true, Bool.or_eq_false_iff, Bool.and_eq_false_iff, Bool.not_eq_true', Bool.not_eq_false', Int.not_lt, Int.not_le, ne_eq, Decidable.not_not] at hc48
      refine wpIn_skip ?_
      refine th_n ?_
      refine wpIn_seq ?_
      refine w_reg ?_
      refine wl1 H17 (r_move rfl) rfl rfl rfl rfl fun a16 H20 => ?_
      clear H17 a15
      refine s_make (c := jn l) H20 Try.underlying29 nf3 rfl rfl rfl hjn (by omega) rfl rfl hN fun w4 br hN gw4 hBr hgebr hebr a17 H21 => ?_
      clear H20 a16
      replace hbc := hbc.gr gw4
      rw [show List.replicate (jn l) (Value.int .i64 0) = recCells l (jn l) 0 from recCells_zero _ _] at hBr
      refine wl1 H21 (r_assign rfl) rfl rfl rfl rfl fun a18 H22 => ?_
      clear H21 a17
      refine wl_end ?_
      refine th_n ?_
      refine wpIn_seq ?_
      refine wpIn_seq ?_
      refine w_reg ?_
      refine wl1 H22 (r_move rfl) rfl rfl rfl rfl fun a19 H23 => ?_
      clear H22 a18
      refine wl1 H23 (r_len Try.underlying29 rfl) rfl rfl rfl rfl fun a20 H24 => ?_
      clear H23 a19
      refine wl1 H24 (r_move rfl) rfl rfl rfl rfl fun a21 H25 => ?_
      clear H24 a20
      refine wl_end ?_
      refine th_n ?_
      refine wpIn_block ?_
      refine w_loop (ι := Nat) (fun k => [(53, .int .i64 (k : Int))]) (fun k W => New I w I W ∧ (k ≤ jn l ∧ Box I W bc [.slice A l.length c, .int .u64 key] 62 ∧ Box I W br (recCells l (jn l) k) 3)) (fun k => jn l - k) (l0 := [(0, _), (2, _), (3, _), (4, _), (5, _), (52, _)]) 0 H25 ⟨rfl, rfl, rfl, rfl, rfl, rfl, rfl, trivial⟩ ⟨hN, by omega, hbc, hBr⟩ ?_
      rintro k a22 w5 H26 ⟨hN, hk, hbc, hBr⟩
      clear H25 a21
      simp only [List.cons_append, List.nil_append] at H26
      refine wpIn_seq ?_
      refine w_reg ?_
      refine wl1 H26 (r_lss rfl rfl) rfl rfl rfl rfl fun a23 H27 => ?_
      clear H26 a22
      refine wl_end ?_
      refine th_n ?_
      refine wpIn_seq ?_
      first | refine w_if H27 rfl (fun hc54 => ?_) (fun hc54 => ?_) | refine w_cond H27 rfl (fun hc54 => ?_) (fun hc54 => ?_)
      ·
        try simp only [decide_eq_true_eq, decide_eq_false_iff_not, Bool.or_eq_true, Bool.and_eq_true, Bool.or_eq_false_iff, Bool.and_eq_false_iff, Bool.not_eq_true', Bool.not_eq_false', Int.not_lt, Int.not_le, ne_eq, Decidable.not_not] at hc54
        refine wpIn_skip ?_
        refine th_n ?_
        refine wpIn_seq ?_
        refine wpIn_block ?_
        refine wpIn_seq ?_
        refine w_reg ?_
        refine wl1 H27 (r_move rfl) rfl rfl rfl rfl fun a24 H28 => ?_
        clear H27 a23
        refine wl1 H28 (r_assign rfl) rfl rfl rfl rfl fun a25 H29 => ?_
        clear H28 a24
        refine wl_end ?_
        refine th_n ?_
        refine w_reg ?_
        refine wl1 H29 (r_move rfl) rfl rfl rfl rfl fun a26 H30 => ?_
        clear H29 a25
        refine wl1 H30 (r_move rfl) rfl rfl rfl rfl fun a27 H31 => ?_
        clear H30 a26
        refine wl1 H31 (r_move rfl) rfl rfl rfl rfl fun a28 H32 => ?_
        clear H31 a27
        refine wl1 H32 (r_nilCheck rfl) rfl rfl rfl rfl fun a29 H33 => ?_
        clear H32 a28
        refine wl1 H33 (r_fld fld62_0 rfl) rfl rfl rfl rfl fun a30 H34 => ?_
        clear H33 a29
        refine wl1 H34 (r_load sc22 rfl (hbc.cell rfl)) rfl rfl rfl rfl fun a31 H35 => ?_
        clear H34 a30
        refine wl1 H35 (r_move rfl) rfl rfl rfl rfl fun a32 H36 => ?_
        clear H35 a31
        first | refine wl1 H36 (r_mulk rfl rfl (by simp only [InK]; omega)) rfl rfl rfl rfl fun a33 H37 => ?_ | refine wl1 H36 (r_mul rfl rfl) rfl rfl rfl rfl fun a33 H37 => ?_
        clear H36 a32
        first | refine wl1 H37 (r_addk rfl rfl (by simp only [InK]; omega)) rfl rfl rfl rfl fun a34 H38 => ?_ | refine wl1 H37 (r_add rfl rfl) rfl rfl rfl rfl fun a34 H38 => ?_
        clear H37 a33
        refine wlc  H38 rfl rfl hb41 rfl (jword (at_ := 16 + 8 * k) hN.sat hA (by omega)) fun v w6 hR a35 H39 => ?_
        clear H38 a34
        obtain ⟨rfl, gw6⟩ := hR
        have hN := hN.ofGr gw6
        replace hbc := hbc.gr gw6
        replace hBr := hBr.gr gw6
        refine wl1 H39 (r_conv Try.underlying32 Try.underlying3 rfl) rfl rfl rfl rfl fun a36 H40 => ?_
        clear H39 a35
        refine wl1 H40 (r_idx Try.underlying29 sz3 rfl rfl (i := k) rfl (by omega)) rfl rfl rfl rfl fun a37 H41 => ?_
        clear H40 a36
        refine s_store H41 sz3 rfl rfl rfl hN hBr (by rw [recCells_length (by omega)]; omega) hgebr fun w7 hN hBr ew7 H42 => ?_
        clear H41
        replace hbc := hbc.otherE ew7 (by have := hbc0.lt; omega)
        rw [recCells_set (by omega)] at hBr
        clear ew7
        refine wl_end ?_
        refine bl_n ?_
        refine th_n ?_
        refine w_reg ?_
        first | refine wl1 H42 (r_addk rfl rfl (by simp only [InK]; omega)) rfl rfl rfl rfl fun a38 H43 => ?_ | refine wl1 H42 (r_add rfl rfl) rfl rfl rfl rfl fun a38 H43 => ?_
        clear H42 a37
        refine wl1 H43 (r_move rfl) rfl rfl rfl rfl fun a39 H44 => ?_
        clear H43 a38
        refine wl_end ?_
        exact th_n ⟨k + 1, (by omega), H44.sub ⟨rfl, rfl, rfl, rfl, rfl, rfl, rfl, trivial⟩, hN, by omega, hbc, hBr⟩
      ·
        try simp only [decide_eq_true_eq, decide_eq_false_iff_not, Bool.or_eq_true, Bool.and_eq_true, Bool.or_eq_false_iff, Bool.and_eq_false_iff, Bool.not_eq_true', Bool.not_eq_false', Int.not_lt, Int.not_le, ne_eq, Decidable.not_not] at hc54
        refine wpIn_exit ?_
        refine th_x ?_
        refine th_x ?_
        refine bl_hit ?_
        refine th_n ?_
        refine wpIn_seq ?_
        refine w_reg ?_
        refine wl1 H27 (r_move rfl) rfl rfl rfl rfl fun a24 H45 => ?_
        clear H27 a23
        refine wl1 H45 (r_nilCheck rfl) rfl rfl rfl rfl fun a25 H46 => ?_
        clear H45 a24
        refine wl1 H46 (r_fld fld62_0 rfl) rfl rfl rfl rfl fun a26 H47 => ?_
        clear H46 a25
        refine wl1 H47 (r_load sc22 rfl (hbc.cell rfl)) rfl rfl rfl rfl fun a27 H48 => ?_
        clear H47 a26
        refine wl1 H48 (r_move rfl) rfl rfl rfl rfl fun a28 H49 => ?_
        clear H48 a27
        first | refine wl1 H49 (r_convk Try.underlying32 Try.underlying3 rfl (by simp only [InK]; omega)) rfl rfl rfl rfl fun a29 H50 => ?_ | refine wl1 H49 (r_conv Try.underlying32 Try.underlying3 rfl) rfl rfl rfl rfl fun a29 H50 => ?_
        clear H49 a28
        first | refine wl1 H50 (r_mulk rfl rfl (by simp only [InK]; omega)) rfl rfl rfl rfl fun a30 H51 => ?_ | refine wl1 H50 (r_mul rfl rfl) rfl rfl rfl rfl fun a30 H51 => ?_
        clear H50 a29
        first | refine wl1 H51 (r_addk rfl rfl (by simp only [InK]; omega)) rfl rfl rfl rfl fun a31 H52 => ?_ | refine wl1 H51 (r_add rfl rfl) rfl rfl rfl rfl fun a31 H52 => ?_
        clear H51 a30
        rw [hjn] at H52
        refine wlc  H52 rfl rfl hb41 rfl (jword (at_ := 16 + 8 * jn l) hN.sat hA (by omega)) fun v w8 hR a32 H53 => ?_
        clear H52 a31
        obtain ⟨rfl, gw8⟩ := hR
        have hN := hN.ofGr gw8
        replace hbc := hbc.gr gw8
        replace hBr := hBr.gr gw8
        refine wl1 H53 (r_assign rfl) rfl rfl rfl rfl fun a33 H54 => ?_
        clear H53 a32
        refine wl_end ?_
        refine th_n ?_
        refine wpIn_seq ?_
        refine wpIn_seq ?_
        refine w_reg ?_
        refine wl1 H54 (r_move rfl) rfl rfl rfl rfl fun a34 H55 => ?_
        clear H54 a33
        refine wl1 H55 (r_move rfl) rfl rfl rfl rfl fun a35 H56 => ?_
        clear H55 a34
        refine wl1 H56 (r_nilCheck rfl) rfl rfl rfl rfl fun a36 H57 => ?_
        clear H56 a35
        refine wl1 H57 (r_fld fld62_1 rfl) rfl rfl rfl rfl fun a37 H58 => ?_
        clear H57 a36
        refine wl1 H58 (r_load sc32 rfl (hbc.cell rfl)) rfl rfl rfl rfl fun a38 H59 => ?_
        clear H58 a37
        refine wl1 H59 (r_move rfl) rfl rfl rfl rfl fun a39 H60 => ?_
        clear H59 a38
        have hkn : k = jn l := by omega
        have hBr2 : Box I w8 br ((recAt l (jn l)).map (Value.int .i64)) 3 := by rw [← recCells_full, ← hkn]; rw [← hkn] at hBr; exact hBr
        have hN2 := hN.freezeBox hBr2 hgebr
        have hEr : Els (kInt .i64) (I.add br (.cells ((recAt l (jn l)).map (Value.int .i64)).toArray 3 (0, 0))) (some ⟨br, 0, none⟩) (recAt l (jn l)) := Els.nums (Im.add_at _ _ _) (by rw [recAt_length]; omega) (recAt_inK _ _)
        have hbc2 : Box (I.add br (.cells ((recAt l (jn l)).map (Value.int .i64)).toArray 3 (0, 0) )) w8 bc [.slice A l.length c, .int .u64 key] 62 := ⟨hbc.blk, by simp only [Im.add]; rw [if_neg (by have := hBr.lt; have := hbc.lt; intro e; subst e; exact absurd hgebr (by have := hbc0.lt; omega))]; exact hbc.im⟩
        refine wlc  H60 rfl rfl hb24 rfl (tag_ret' hN2.sat hEr (recAt_length _ _)) fun v w9 hR a40 H61 => ?_
        clear H60 a39
        obtain ⟨rfl, gw9⟩ := hR
        have hN := hN.ofGr gw9
        replace hbc := hbc.gr gw9
        replace hBr := hBr.gr gw9
        have hN2 := hN2.ofGr gw9
        have hbc2 := hbc2.gr gw9
        refine wl1 H61 (r_neq rfl rfl) rfl rfl rfl rfl fun a41 H62 => ?_
        clear H61 a40
        refine wl_end ?_
        refine th_n ?_
        first | refine w_if H62 rfl (fun hc85 => ?_) (fun hc85 => ?_) | refine w_cond H62 rfl (fun hc85 => ?_) (fun hc85 => ?_)
        ·
          try simp only [decide_eq_true_eq, decide_eq_false_iff_not, Bool.or_eq_true, Bool.and_eq_true, Bool.or_eq_false_iff, Bool.and_eq_false_iff, Bool.not_eq_true', Bool.not_eq_false', Int.not_lt, Int.not_le, ne_eq, Decidable.not_not] at hc85
          refine wpIn_seq ?_
          refine w_reg ?_
          refine wl1 H62 (r_assign rfl) rfl rfl rfl rfl fun a42 H63 => ?_
          clear H62 a41
          refine wl1 H63 (r_assign rfl) rfl rfl rfl rfl fun a43 H64 => ?_
          clear H63 a42
          refine wl_end ?_
          refine th_n ?_
          refine wpIn_ret ?_
          refine th_r ?_
          refine fin_r H64 (res2 rfl H64 rfl rfl) ?_
          exact .inl ⟨fun h => hc85 h.sl, rfl, hN.gr⟩
        ·
          try simp only [decide_eq_true_eq, decide_eq_false_iff_not, Bool.or_eq_true, Bool.and_eq_true, Bool.or_eq_false_iff, Bool.and_eq_false_iff, Bool.not_eq_true', Bool.not_eq_false', Int.not_lt, Int.not_le, ne_eq, Decidable.not_not] at hc85
          refine wpIn_skip ?_
          refine th_n ?_
          refine wpIn_seq ?_
          refine w_reg ?_
          refine wl1 H62 (r_move rfl) rfl rfl rfl rfl fun a42 H65 => ?_
          clear H62 a41
          refine wl1 H65 (r_move rfl) rfl rfl rfl rfl fun a43 H66 => ?_
          clear H65 a42
          refine wl1 H66 (r_move rfl) rfl rfl rfl rfl fun a44 H67 => ?_
          clear H66 a43
          refine wl1 H67 (r_nilCheck rfl) rfl rfl rfl rfl fun a45 H68 => ?_
          clear H67 a44
          refine wl1 H68 (r_fld fld62_0 rfl) rfl rfl rfl rfl fun a46 H69 => ?_
          clear H68 a45
          refine wl1 H69 (r_load sc22 rfl (hbc.cell rfl)) rfl rfl rfl rfl fun a47 H70 => ?_
          clear H69 a46
          refine wl1 H70 (r_move rfl) rfl rfl rfl rfl fun a48 H71 => ?_
          clear H70 a47
          first | refine wl1 H71 (r_mulk rfl rfl (by simp only [InK]; omega)) rfl rfl rfl rfl fun a49 H72 => ?_ | refine wl1 H71 (r_mul rfl rfl) rfl rfl rfl rfl fun a49 H72 => ?_
          clear H71 a48
          first | refine wl1 H72 (r_addk rfl rfl (by simp only [InK]; omega)) rfl rfl rfl rfl fun a50 H73 => ?_ | refine wl1 H72 (r_add rfl rfl) rfl rfl rfl rfl fun a50 H73 => ?_
          clear H72 a49
          refine wl1 H73 (r_from (lo := 24 + 8 * jn l) Try.underlying22 sz5 rfl rfl (by omega) (by omega) hlc) rfl rfl rfl rfl fun a51 H74 => ?_
          clear H73 a50
          refine wl1 H74 (r_move rfl) rfl rfl rfl rfl fun a52 H75 => ?_
          clear H74 a51
          refine wl1 H75 (r_nilCheck rfl) rfl rfl rfl rfl fun a53 H76 => ?_
          clear H75 a52
          refine wl1 H76 (r_fld fld62_0 rfl) rfl rfl rfl rfl fun a54 H77 => ?_
          clear H76 a53
          refine s_storeS H77 sz22 rfl rfl rfl hN2.sat hbc2 (by simp) fun w91 hS91 hb91 he91 H78 => ?_
          clear H77
          simp only [Nat.add_zero, List.set_cons_zero] at hb91 he91
          refine wl1 H78 (r_nilCheck rfl) rfl rfl rfl rfl fun a55 H79 => ?_
          clear H78 a54
          refine wl1 H79 (r_fld fld62_1 rfl) rfl rfl rfl rfl fun a56 H80 => ?_
          clear H79 a55
          refine s_storeS H80 sz32 rfl rfl rfl hS91 hb91 (by simp) fun w92 hS92 hb92 he92 H81 => ?_
          clear H80
          simp only [Nat.zero_add, List.set_cons_zero, List.set_cons_succ] at hb92 he92
          have hNS : NewS (fun k => k = bc) I w (I.add br (.cells ((recAt l (jn l)).map (Value.int .i64)).toArray 3 (0, 0))) w92 := (NewS.ofNew hN2).trans ⟨Im.le.refl _, hS92, by rw [he92, he91]; exact ((Mod.refl (fun k => k = bc) _).setB (.inl rfl) _ _).setB (.inl rfl) _ _, fun _ _ => rfl⟩
          clear he91 he92
          refine wl_end ?_
          refine th_n ?_
          refine wpIn_seq ?_
          refine w_reg ?_
          refine wl1 H81 (r_move rfl) rfl rfl rfl rfl fun a57 H82 => ?_
          clear H81 a56
          refine wl1 H82 (r_assign rfl) rfl rfl rfl rfl fun a58 H83 => ?_
          clear H82 a57
          refine wl1 H83 (r_assign rfl) rfl rfl rfl rfl fun a59 H84 => ?_
          clear H83 a58
          refine wl_end ?_
          refine th_n ?_
          refine wpIn_ret ?_
          refine fin_r H84 (res2 rfl H84 rfl rfl) ?_
          exact .inr ⟨⟨by omega, by omega, by omega, hc48.2, hc85⟩, _, br, rfl, hEr, hNS, hb92⟩
end Go.Proofs.Yteinlgobadlgnaa
