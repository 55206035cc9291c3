/- Putting a record. -/
import Derived.Test.YteinlgobadlgnaaJouG
set_option linter.unusedVariables false
set_option linter.unusedSimpArgs false
namespace Go.Proofs.Yteinlgobadlgnaa
open Go.RowKit


noncomputable def putErr (l rec : List Int) : Int := if 256 < rec.length then 1 else if (jall l 0).off < l.length then 60 else if 65536 < l.length + 24 + 8 * rec.length then 2 else 0
noncomputable def headW (key : Int) (rec : List Int) : List Int := [(rec.length : Int), dtag key [(rec.length : Int)]]
noncomputable def encB (key : Int) (rec : List Int) : List Int := wsB (headW key rec) ++ wsB (rec.map IntKind.u64.wrap) ++ wsB [dtag key rec]
noncomputable def putB (l rec : List Int) : List Int := if putErr l rec = 0 then l ++ encB (jall l 0).key rec else []
def PutPost (I : Im) (w : World) (l rec : List Int) (v : Value) (w' : World) : Prop :=
  ∃ J A c, New I w J w' ∧ v = .tuple #[.slice A (putB l rec).length c, .int .i64 (putErr l rec)] ∧ (putB l rec).length ≤ c ∧ Els (kInt .u8) J A (putB l rec)
theorem putPost_err {I J : Im} {w w' : World} {l rec : List Int} {e : Int} (h : New I w J w') (he : putErr l rec = e) (hne : e ≠ 0) : PutPost I w l rec (.tuple #[.slice none 0 0, .int .i64 e]) w' := by
  refine ⟨J, none, 0, h, ?_⟩
  have : putB l rec = [] := by unfold putB; rw [if_neg (by rw [he]; exact hne)]
  rw [this, he]
  exact ⟨rfl, Nat.le_refl _, Els.nil _ _ _⟩
theorem putPost_ok {I J : Im} {w W : World} {l rec : List Int} {Dd B : Nat} {v : Value} (hN : New I w J W) (hD : Ob J W Dd (.deferred (some []))) (hge : w.heap.size ≤ Dd) (hB : Dd < B) (hO : OwnK (kInt .u8) J W B 5 v (l ++ wsB (headW (jall l 0).key rec) ++ wsB (rec.map IntKind.u64.wrap) ++ wsB [dtag (jall l 0).key rec])) (he : putErr l rec = 0) :
    PutPost I w l rec (.tuple #[v, .int .i64 0]) (setO W Dd (.deferred none)) := by
  obtain ⟨K, A, c, hK, hle, _, rfl, hc, hE⟩ := (hO.otherO hB (.deferred none)).freeze (hN.setO hge hD.im _) (by omega)
  have e : putB l rec = l ++ wsB (headW (jall l 0).key rec) ++ wsB (rec.map IntKind.u64.wrap) ++ wsB [dtag (jall l 0).key rec] := by unfold putB; rw [if_pos he]; simp [encB, List.append_assoc]
  exact ⟨K, A, c, hK, by rw [he, e], by rw [e]; exact hc, by rw [e]; exact hE⟩
theorem Apx.own {α : Type} {d : Kd α} {J : Im} {w : World} {B : Nat} {e : TypeId} {v : Value} {xs : List α} (h : Apx d J w B e v xs) : True := trivial
theorem putPost_apx {I J : Im} {w W : World} {l rec : List Int} {Dd B : Nat} {v : Value} (hN : New I w J W) (hD : Ob J W Dd (.deferred (some []))) (hge : w.heap.size ≤ Dd) (hB : Dd < B) (hO : Apx (kInt .u8) J W B 5 v (l ++ wsB (headW (jall l 0).key rec) ++ wsB (rec.map IntKind.u64.wrap) ++ wsB [dtag (jall l 0).key rec])) (he : putErr l rec = 0) :
    PutPost I w l rec (.tuple #[v, .int .i64 0]) (setO W Dd (.deferred none)) := by
  rcases hO with hO | ⟨A, rfl, hE⟩
  · exact putPost_ok hN hD hge hB hO he
  · have e : putB l rec = l ++ wsB (headW (jall l 0).key rec) ++ wsB (rec.map IntKind.u64.wrap) ++ wsB [dtag (jall l 0).key rec] := by unfold putB; rw [if_pos he]; simp [encB, List.append_assoc]
    exact ⟨J, A, _, hN.setO hge hD.im _, by rw [he, e], by rw [e]; exact Nat.le_refl _, by rw [e]; exact hE⟩

set_option maxRecDepth 100000 in
set_option maxHeartbeats 2000000 in
theorem jput {A R : Option Addr} {c cr : Nat} {l rec : List Int} {I : Im} {w : World} (hS : Sat I w) (hA : Els (kInt .u8) I A l) (hlc : l.length ≤ c) (hmax : l.length ≤ 16777216) (hR : Els (kInt .i64) I R rec) (hrc : rec.length ≤ cr) :
    Ret Try.prog 27 [.slice A l.length c, .slice R rec.length cr] w (PutPost I w l rec) := by
  have hrm := hR.1
  refine ret_ofM (N := 69) Try.func27 rfl rfl rfl fun a0 H0 => ?_
  have hN := New.refl hS
  simp only [argsEnv, Nat.zero_add, Nat.reduceAdd] at H0
  refine wpIn_seq ?_
  refine w_reg ?_
  refine wl1 H0 (r_assign rfl) rfl rfl rfl rfl fun a1 H1 => ?_
  clear H0 a0
  refine wl1 H1 (r_assign rfl) rfl rfl rfl rfl fun a2 H2 => ?_
  clear H1 a1
  refine wl_end ?_
  refine th_n ?_
  refine wpIn_seq ?_
  refine wpIn_seq ?_
  refine w_reg ?_
  refine wl1 H2 (r_move rfl) rfl rfl rfl rfl fun a3 H3 => ?_
  clear H2 a2
  refine wl1 H3 (r_len Try.underlying29 rfl) rfl rfl rfl rfl fun a4 H4 => ?_
  clear H3 a3
  refine wl1 H4 (r_gtr rfl rfl) rfl rfl rfl rfl fun a5 H5 => ?_
  clear H4 a4
  refine wl_end ?_
  refine th_n ?_
  first | refine w_if H5 rfl (fun hc13 => ?_) (fun hc13 => ?_) | refine w_cond H5 rfl (fun hc13 => ?_) (fun hc13 => ?_)
  ·
    try simp only [decide_eq_true_eq, decide_eq_false_iff_not, Bool.or_eq_true, Bool.and_eq_true, Bool.or_eq_false_iff, Bool.and_eq_false_iff, Bool.not_eq_true', Bool.not_eq_false', Int.not_lt, Int.not_le, ne_eq, Decidable.not_not] at hc13
    refine wpIn_seq ?_
    refine w_reg ?_
    refine wl1 H5 (r_assign rfl) rfl rfl rfl rfl fun a6 H6 => ?_
    clear H5 a5
    refine wl1 H6 (r_assign rfl) rfl rfl rfl rfl fun a7 H7 => ?_
    clear H6 a6
    refine wl_end ?_
    refine th_n ?_
    refine wpIn_ret ?_
    refine th_r ?_
    refine fin0M H7 (res2 rfl H7 rfl rfl) ?_
    exact putPost_err hN (by unfold putErr; rw [if_pos (by omega)]) (by decide)
  ·
    try simp only [decide_eq_true_eq, decide_eq_false_iff_not, Bool.or_eq_true, Bool.and_eq_true, Bool.or_eq_false_iff, Bool.and_eq_false_iff, Bool.not_eq_true', Bool.not_eq_false', Int.not_lt, Int.not_le, ne_eq, Decidable.not_not] at hc13
    refine wpIn_skip ?_
    refine th_n ?_
    refine wpIn_seq ?_
    refine w_reg ?_
    refine wl1 H5 (r_move rfl) rfl rfl rfl rfl fun a6 H8 => ?_
    clear H5 a5
    refine wl1 H8 (r_build (v := .agg #[.slice A l.length c, .int .u64 0]) rfl (fun w => by kernel_rfl)) rfl rfl rfl rfl fun a7 H9 => ?_
    clear H8 a6
    refine s_alloc H9 zv62 rfl hN fun w1 b6 hN gw1 hB6 hgeb6 heb6 a8 H10 => ?_
    clear H9 a7
    replace hB6 : Box _ _ _ [.slice none 0 0, .int .u64 0] 62 := hB6
    refine s_storeA (vs := [_, _]) H10 sz62 (by simp) (by simp [Value.oneCell']) rfl rfl hN hB6 (by simp) hgeb6 fun w2 hN hB6 ew2 H11 => ?_
    clear H10
    simp only [Nat.zero_add, Nat.add_zero, Nat.reduceAdd, Nat.reduceMul, List.set_cons_zero, List.set_cons_succ, spliceL] at hB6
    clear ew2
    refine wl_end ?_
    refine th_n ?_
    refine wpIn_seq ?_
    refine wpIn_seq ?_
    refine w_reg ?_
    refine wl1 H11 (r_makeFunc rfl rfl) rfl rfl rfl rfl fun a9 H12 => ?_
    clear H11 a8
    refine wl_end ?_
    refine th_n ?_
    refine wpIn_block ?_
    have hlt6 := hB6.lt
    refine w_range' (first := [_]) (capt := []) H12 rfl hb30 ?_
    intro rc L Dd w3 hDge hDL hLs gw3 hL hD hrs hrp hrt hrps hra hrb
    have hN := hN.ofGr gw3
    replace hB6 := hB6.gr gw3
    have hszL := gw3.size
    have hgeL : w.heap.size ≤ L := by omega
    have hLb : Ob I w3 L (.loop rc) := ⟨hL, hS.fresh (by omega)⟩
    have hDb : Ob I w3 Dd (.deferred (some [])) := ⟨hD, hS.fresh (by omega)⟩
    have h0 : IdleInv I w L Dd rc [] I w3 := ⟨hN, hLb, hDb⟩
    have hround : ∀ rs r J W b cs, IdleInv I w L Dd rc rs J W → Sat J W → Box J W b6 cs 62 → Els (kInt .i64) J (some ⟨b, 0, none⟩) r → r.length ≤ 256 → rs.length ≤ 16777216 → YRet Try.prog L [.slice (some ⟨b, 0, none⟩) r.length r.length] W (fun v W' => v = .bool true ∧ ∃ J', Im.le J J' ∧ Sat J' W' ∧ Box J' W' b6 cs 62 ∧ IdleInv I w L Dd rc (rs ++ [r]) J' W') := by
      intro rs r J W b cs ⟨hN, hLb, hDb⟩ hSW hB6 hr hrl hrs9
      have hLW := hLb.at_
      clear hL hD
      refine yield_ofA (x := .slice (some ⟨b, 0, none⟩) r.length r.length) hLW hrs hrps hrt hra hrb H12 rfl ?_
      intro a10 H13
      refine wpIn_skip ?_
      refine th_n ⟨rfl, ?_⟩
      obtain ⟨W1, hW1⟩ : ∃ x, x = setO W L (.loop { rc with state := .busy }) := ⟨_, rfl⟩
      rw [← hW1]
      replace hN : New I w J W1 := by rw [hW1]; exact hN.setO hgeL hLb.im _
      replace hB6 : Box J W1 b6 cs 62 := by rw [hW1]; exact hB6.otherO (by omega) _
      replace hDb : Ob J W1 Dd (.deferred (some [])) := by rw [hW1]; exact hDb.otherO (by omega) _
      replace hLb : Ob J W1 L (.loop { rc with state := .busy }) := by rw [hW1]; exact hLb.set _
      clear hW1
      have hleJ := Im.le.refl J
      refine wpIn_block ?_
      refine wpIn_skip ?_
      refine bl_n ?_
      refine round_n hLb.at_ hrs hrp ?_
      exact ⟨rfl, J, hleJ, (hN.setO hgeL hLb.im _).sat, hB6.otherO (by omega) _, hN.setO hgeL hLb.im _, hLb.set _, hDb.otherO (by omega) _⟩
    refine (jrecords (Inv := IdleInv I w L Dd rc) hN.sat hB6 hA hlc hmax (fun rs J W J' W' ⟨h1, h2, h3⟩ hk => ⟨h1.transS hk (fun b e => by subst e; exact hgeb6), h2.nextS hk (by omega), h3.nextS hk (by omega)⟩) hround h0).mono ?_
    rintro v w4 ⟨J3, hle3, hS3, ⟨hN3, hLb, hDb⟩, A3, c3, hB6, hE3, hcc3⟩
    have hL3 := hLb.at_
    refine ⟨hL3, ?_⟩
    intro a10 H14
    obtain ⟨w5, hw4⟩ : ∃ x, x = setO w4 L (.loop { rc with state := .exhausted }) := ⟨_, rfl⟩
    rw [← hw4]
    replace hN : New I w J3 w5 := by rw [hw4]; exact hN3.setO hgeL hLb.im _
    replace hB6 : Box J3 w5 b6 [.slice A3 (l.length - (jall l 0).off) c3, .int .u64 (jall l 0).key] 62 := by rw [hw4]; exact hB6.otherO (by omega) _
    replace hDb : Ob J3 w5 Dd (.deferred (some [])) := by rw [hw4]; exact hDb.otherO (by omega) _
    have hltD5 := hDb.lt
    replace hA := hA.up hle3
    replace hR := hR.up hle3
    clear hw4
    refine bl_n ?_
    refine th_n ?_
    refine wpIn_seq ?_
    refine wpIn_seq ?_
    refine w_reg ?_
    refine wl1 H14 (r_fld fld62_0 rfl) rfl rfl rfl rfl fun a11 H15 => ?_
    clear H14 a10
    refine wl1 H15 (r_load sc22 rfl (hB6.cell rfl)) rfl rfl rfl rfl fun a12 H16 => ?_
    clear H15 a11
    refine wl1 H16 (r_len Try.underlying22 rfl) rfl rfl rfl rfl fun a13 H17 => ?_
    clear H16 a12
    refine wl1 H17 (r_gtr rfl rfl) rfl rfl rfl rfl fun a14 H18 => ?_
    clear H17 a13
    refine wl_end ?_
    refine th_n ?_
    first | refine w_if H18 rfl (fun hc21 => ?_) (fun hc21 => ?_) | refine w_cond H18 rfl (fun hc21 => ?_) (fun hc21 => ?_)
    ·
      try simp only [decide_eq_true_eq, decide_eq_false_iff_not, Bool.or_eq_true, Bool.and_eq_true, Bool.or_eq_false_iff, Bool.and_eq_false_iff, Bool.not_eq_true', Bool.not_eq_false', Int.not_lt, Int.not_le, ne_eq, Decidable.not_not] at hc21
      refine wpIn_seq ?_
      refine w_reg ?_
      refine wl1 H18 (r_assign rfl) rfl rfl rfl rfl fun a15 H19 => ?_
      clear H18 a14
      refine wl1 H19 (r_assign rfl) rfl rfl rfl rfl fun a16 H20 => ?_
      clear H19 a15
      refine wl_end ?_
      refine th_n ?_
      refine wpIn_ret ?_
      refine th_r ?_
      refine finM H20 hDb.at_ (res2 rfl H20 rfl rfl) ?_
      exact putPost_err (hN.setO (by omega) hDb.im _) (by unfold putErr; rw [if_neg (by omega), if_pos (by omega)]) (by decide)
    ·
      try simp only [decide_eq_true_eq, decide_eq_false_iff_not, Bool.or_eq_true, Bool.and_eq_true, Bool.or_eq_false_iff, Bool.and_eq_false_iff, Bool.not_eq_true', Bool.not_eq_false', Int.not_lt, Int.not_le, ne_eq, Decidable.not_not] at hc21
      refine wpIn_skip ?_
      refine th_n ?_
      refine wpIn_seq ?_
      refine wpIn_seq ?_
      refine w_reg ?_
      refine wl1 H18 (r_move rfl) rfl rfl rfl rfl fun a15 H21 => ?_
      clear H18 a14
      refine wl1 H21 (r_len Try.underlying22 rfl) rfl rfl rfl rfl fun a16 H22 => ?_
      clear H21 a15
      first | refine wl1 H22 (r_addk rfl rfl (by simp only [InK]; omega)) rfl rfl rfl rfl fun a17 H23 => ?_ | refine wl1 H22 (r_add rfl rfl) rfl rfl rfl rfl fun a17 H23 => ?_
      clear H22 a16
      refine wl1 H23 (r_move rfl) rfl rfl rfl rfl fun a18 H24 => ?_
      clear H23 a17
      refine wl1 H24 (r_len Try.underlying29 rfl) rfl rfl rfl rfl fun a19 H25 => ?_
      clear H24 a18
      first | refine wl1 H25 (r_mulk rfl rfl (by simp only [InK]; omega)) rfl rfl rfl rfl fun a20 H26 => ?_ | refine wl1 H25 (r_mul rfl rfl) rfl rfl rfl rfl fun a20 H26 => ?_
      clear H25 a19
      first | refine wl1 H26 (r_addk rfl rfl (by simp only [InK]; omega)) rfl rfl rfl rfl fun a21 H27 => ?_ | refine wl1 H26 (r_add rfl rfl) rfl rfl rfl rfl fun a21 H27 => ?_
      clear H26 a20
      refine wl1 H27 (r_gtr rfl rfl) rfl rfl rfl rfl fun a22 H28 => ?_
      clear H27 a21
      refine wl_end ?_
      refine th_n ?_
      first | refine w_if H28 rfl (fun hc29 => ?_) (fun hc29 => ?_) | refine w_cond H28 rfl (fun hc29 => ?_) (fun hc29 => ?_)
      ·
        try simp only [decide_eq_true_eq, decide_eq_false_iff_not, Bool.or_eq_true, Bool.and_eq_true, Bool.or_eq_false_iff, Bool.and_eq_false_iff, Bool.not_eq_true', Bool.not_eq_false', Int.not_lt, Int.not_le, ne_eq, Decidable.not_not] at hc29
        refine wpIn_seq ?_
        refine w_reg ?_
        refine wl1 H28 (r_assign rfl) rfl rfl rfl rfl fun a23 H29 => ?_
        clear H28 a22
        refine wl1 H29 (r_assign rfl) rfl rfl rfl rfl fun a24 H30 => ?_
        clear H29 a23
        refine wl_end ?_
        refine th_n ?_
        refine wpIn_ret ?_
        refine th_r ?_
        refine finM H30 hDb.at_ (res2 rfl H30 rfl rfl) ?_
        exact putPost_err (hN.setO (by omega) hDb.im _) (by unfold putErr; rw [if_neg (by omega), if_neg (by omega), if_pos (by omega)]) (by decide)
      ·
        try simp only [decide_eq_true_eq, decide_eq_false_iff_not, Bool.or_eq_true, Bool.and_eq_true, Bool.or_eq_false_iff, Bool.and_eq_false_iff, Bool.not_eq_true', Bool.not_eq_false', Int.not_lt, Int.not_le, ne_eq, Decidable.not_not] at hc29
        refine wpIn_skip ?_
        refine th_n ?_
        refine wpIn_seq ?_
        refine w_reg ?_
        refine wl1 H28 (r_move rfl) rfl rfl rfl rfl fun a23 H31 => ?_
        clear H28 a22
        refine wl1 H31 (r_move rfl) rfl rfl rfl rfl fun a24 H32 => ?_
        clear H31 a23
        refine wl1 H32 (r_len Try.underlying22 rfl) rfl rfl rfl rfl fun a25 H33 => ?_
        clear H32 a24
        refine wl1 H33 (r_move rfl) rfl rfl rfl rfl fun a26 H34 => ?_
        clear H33 a25
        refine wl1 H34 (r_len Try.underlying22 rfl) rfl rfl rfl rfl fun a27 H35 => ?_
        clear H34 a26
        refine wl1 H35 (r_upto3 (hi := l.length) (mx := l.length) Try.underlying22 sz5 rfl rfl rfl rfl rfl (Nat.le_refl _) hlc) rfl rfl rfl rfl fun a28 H36 => ?_
        clear H35 a27
        refine s_alloc H36 zv22 rfl hN fun w6 b7 hN gw6 hB7 hgeb7 heb7 a29 H37 => ?_
        clear H36 a28
        replace hB7 : Box _ _ _ [.slice none 0 0] 22 := hB7
        have hne_hB6_b7 := hB6.lt
        rw [← heb7] at hne_hB6_b7
        have hne_hDb_b7 := hDb.lt
        rw [← heb7] at hne_hDb_b7
        replace hB6 := hB6.gr gw6
        replace hDb := hDb.gr gw6
        refine s_store H37 sz22 rfl rfl rfl hN hB7 (by simp) hgeb7 fun w7 hN hB7 ew7 H38 => ?_
        clear H37
        replace hB6 := hB6.otherE ew7 (by omega)
        replace hDb := hDb.otherE ew7 (by omega)
        simp only [Nat.zero_add, Nat.add_zero, Nat.reduceAdd, Nat.reduceMul, List.set_cons_zero, List.set_cons_succ, spliceL] at hB7
        clear ew7
        obtain ⟨B, hBw⟩ : ∃ B, B = (w7).heap.size := ⟨_, rfl⟩
        have hltB : b7 < B := by have := hB7.lt; omega
        have hltD : Dd < B := by have := hDb.lt; omega
        have hlt6B : b6 < B := by have := hB6.lt; omega
        have hne67 : b6 < b7 := by have := hB6.lt; omega
        have hneD7 : Dd < b7 := by omega
        have hAp : Apx (kInt .u8) J3 w7 B 5 (.slice A l.length l.length) l := .inr ⟨A, rfl, hA⟩
        have hszB : B ≤ (w7).heap.size := by omega
        refine wl_end ?_
        refine th_n ?_
        refine wpIn_seq ?_
        refine w_reg ?_
        refine wl1 H38 (r_makeFunc rfl rfl) rfl rfl rfl rfl fun a30 H39 => ?_
        clear H38 a29
        refine wl1 H39 (r_assign rfl) rfl rfl rfl rfl fun a31 H40 => ?_
        clear H39 a30
        refine wl_end ?_
        refine th_n ?_
        refine wpIn_seq ?_
        refine w_reg ?_
        refine wl1 H40 (r_move rfl) rfl rfl rfl rfl fun a32 H41 => ?_
        clear H40 a31
        refine wl1 H41 (r_move rfl) rfl rfl rfl rfl fun a33 H42 => ?_
        clear H41 a32
        refine wl1 H42 (r_len Try.underlying29 rfl) rfl rfl rfl rfl fun a34 H43 => ?_
        clear H42 a33
        first | refine wl1 H43 (r_convk Try.underlying3 Try.underlying32 rfl (by simp only [InK]; omega)) rfl rfl rfl rfl fun a35 H44 => ?_ | refine wl1 H43 (r_conv Try.underlying3 Try.underlying32 rfl) rfl rfl rfl rfl fun a35 H44 => ?_
        clear H43 a34
        refine wl1 H44 (r_fld fld62_1 rfl) rfl rfl rfl rfl fun a36 H45 => ?_
        clear H44 a35
        refine wl1 H45 (r_load sc32 rfl (hB6.cell rfl)) rfl rfl rfl rfl fun a37 H46 => ?_
        clear H45 a36
        refine wl1 H46 (r_move rfl) rfl rfl rfl rfl fun a38 H47 => ?_
        clear H46 a37
        refine wl1 H47 (r_len Try.underlying29 rfl) rfl rfl rfl rfl fun a39 H48 => ?_
        clear H47 a38
        refine s_lit1 (cs := [_]) H48 Try.underlying29 sz3 zv3 rfl rfl rfl (by simp [Value.oneCell']) rfl hN fun w8 l45 K8 hKl45 hlel45 hN nw8 hgel45 a40 H49 => ?_
        clear H48 a39
        replace hA := hA.up nw8.le
        replace hR := hR.up nw8.le
        replace hB6 := hB6.next nw8
        replace hDb := hDb.next nw8
        replace hB7 := hB7.next nw8
        replace hAp := hAp.next nw8
        replace hszB := Nat.le_trans hszB nw8.gr.size
        have hE45 : Els (kInt .i64) K8 (some ⟨l45, 0, none⟩) [(rec.length : Int)] := Els.nums hKl45 (by simp) (by simp [InK]; omega)
        refine wlc  H49 rfl rfl hb24 rfl (tag_ret' hN.sat hE45 rfl) fun v w9 hR a41 H50 => ?_
        clear H49 a40
        obtain ⟨rfl, gw9⟩ := hR
        have hN := hN.ofGr gw9
        replace hB6 := hB6.gr gw9
        replace hDb := hDb.gr gw9
        replace hB7 := hB7.gr gw9
        replace hAp := hAp.gr gw9
        replace hszB := Nat.le_trans hszB gw9.size
        refine s_lit1 (cs := [_, _]) H50 Try.underlying68 sz32 zv32 rfl rfl rfl (by simp [Value.oneCell']) rfl hN fun w10 l47 K10 hKl47 hlel47 hN nw10 hgel47 a42 H51 => ?_
        clear H50 a41
        replace hA := hA.up nw10.le
        replace hR := hR.up nw10.le
        replace hB6 := hB6.next nw10
        replace hDb := hDb.next nw10
        replace hB7 := hB7.next nw10
        replace hAp := hAp.next nw10
        replace hszB := Nat.le_trans hszB nw10.gr.size
        have hE47 : Els (kInt .u64) K10 (some ⟨l47, 0, none⟩) (headW (jall l 0).key rec) := Els.nums hKl47 (by simp [headW]) (by simp only [headW, List.mem_cons, List.mem_nil_iff, or_false]; rintro x (rfl | rfl); simp only [InK]; omega; exact dtag_inK _ _)
        refine wlc (first := []) (capt := [_]) H51 rfl rfl hb35 rfl (jadd (A := some ⟨l47, 0, none⟩) (bo := b7) (B := B) (ws := headW (jall l 0).key rec) hN.sat hszB hB7 hltB hAp hE47 (by simp [headW]; omega)) fun v w11 hR a43 H52 => ?_
        clear H51 a42
        obtain ⟨rfl, u1, hB7, hAp, hNS⟩ := hR
        replace hB6 := hB6.nextS hNS (by simp only [rowS]; omega)
        replace hDb := hDb.nextS hNS (by simp only [rowS]; omega)
        have hN := hN.transS hNS (fun b e => by simp only [rowS] at e; omega)
        replace hszB := Nat.le_trans hszB hNS.mod.size
        refine wl_end ?_
        refine th_n ?_
        refine wpIn_seq ?_
        refine wpIn_seq ?_
        refine w_reg ?_
        refine wl1 H52 (r_move rfl) rfl rfl rfl rfl fun a44 H53 => ?_
        clear H52 a43
        refine wl1 H53 (r_len Try.underlying29 rfl) rfl rfl rfl rfl fun a45 H54 => ?_
        clear H53 a44
        refine wl1 H54 (r_move rfl) rfl rfl rfl rfl fun a46 H55 => ?_
        clear H54 a45
        refine wl_end ?_
        refine th_n ?_
        refine wpIn_block ?_
        refine w_loop (ι := Nat × Value × Im) (fun x => [(51, .int .i64 (x.1 : Int))]) (fun x W => (x.1 ≤ rec.length ∧ Im.le K10 x.2.2 ∧ New I w x.2.2 W ∧ B ≤ W.heap.size ∧ Box x.2.2 W b6 [.slice A3 (l.length - (jall l 0).off) c3, .int .u64 (jall l 0).key] 62 ∧ Ob x.2.2 W Dd (.deferred (some [])) ∧ Box x.2.2 W b7 [x.2.1] 22 ∧ Apx (kInt .u8) x.2.2 W B 5 x.2.1 (l ++ wsB (headW (jall l 0).key rec) ++ wsB ((rec.map IntKind.u64.wrap).take x.1)))) (fun x => rec.length - x.1) (l0 := [(1, _), (4, _), (5, _), (6, _), (7, _), (8, _), (49, _), (50, _)]) (0, u1, K10) H55 ⟨rfl, rfl, rfl, rfl, rfl, rfl, rfl, rfl, rfl, trivial⟩ ⟨by omega, Im.le.refl _, hN, hszB, hB6, hDb, hB7, by simpa [wsB] using hAp⟩ ?_
        rintro ⟨k, u, J⟩ a47 w12 H56 ⟨hk, hleJ0, hN, hszB, hB6, hDb, hB7, hAp⟩
        clear H55 a46
        simp only [List.cons_append, List.nil_append] at H56
        simp only at hk hleJ0 hN hB6 hDb hB7 hAp H56
        replace hA := hA.up hleJ0
        replace hR := hR.up hleJ0
        refine wpIn_seq ?_
        refine w_reg ?_
        refine wl1 H56 (r_lss rfl rfl) rfl rfl rfl rfl fun a48 H57 => ?_
        clear H56 a47
        refine wl_end ?_
        refine th_n ?_
        refine wpIn_seq ?_
        first | refine w_if H57 rfl (fun hc52 => ?_) (fun hc52 => ?_) | refine w_cond H57 rfl (fun hc52 => ?_) (fun hc52 => ?_)
        ·
          try simp only [decide_eq_true_eq, decide_eq_false_iff_not, Bool.or_eq_true, Bool.and_eq_true, Bool.or_eq_false_iff, Bool.and_eq_false_iff, Bool.not_eq_true', Bool.not_eq_false', Int.not_lt, Int.not_le, ne_eq, Decidable.not_not] at hc52
          obtain ⟨bR, oR, rfl⟩ := hR.form (by omega)
          have hkw : k < rec.length := by omega
          have hkm : k < (rec.map IntKind.u64.wrap).length := by simp; omega
          have hxl : (l ++ wsB (headW (jall l 0).key rec) ++ wsB ((rec.map IntKind.u64.wrap).take k)).length ≤ 70000 := by simp only [List.length_append, wsB_length, List.length_take, headW, List.length_cons, List.length_nil]; omega
          refine wpIn_skip ?_
          refine th_n ?_
          refine wpIn_seq ?_
          refine wpIn_block ?_
          refine wpIn_seq ?_
          refine w_reg ?_
          refine wl1 H57 (r_idx Try.underlying29 sz3 rfl rfl (i := k) rfl (by omega)) rfl rfl rfl rfl fun a49 H58 => ?_
          clear H57 a48
          refine wl1 H58 (r_load sc3 rfl (hN.sat.cell (hR.num (j := k) (by omega)).1)) rfl rfl rfl rfl fun a50 H59 => ?_
          clear H58 a49
          refine wl1 H59 (r_assign rfl) rfl rfl rfl rfl fun a51 H60 => ?_
          clear H59 a50
          refine wl_end ?_
          refine th_n ?_
          refine w_reg ?_
          refine wl1 H60 (r_move rfl) rfl rfl rfl rfl fun a52 H61 => ?_
          clear H60 a51
          refine wl1 H61 (r_move rfl) rfl rfl rfl rfl fun a53 H62 => ?_
          clear H61 a52
          refine wl1 H62 (r_conv Try.underlying3 Try.underlying32 rfl) rfl rfl rfl rfl fun a54 H63 => ?_
          clear H62 a53
          refine s_lit1 (cs := [_]) H63 Try.underlying68 sz32 zv32 rfl rfl rfl (by simp [Value.oneCell']) rfl hN fun w13 l58 K13 hKl58 hlel58 hN nw13 hgel58 a55 H64 => ?_
          clear H63 a54
          replace hA := hA.up nw13.le
          replace hR := hR.up nw13.le
          replace hB6 := hB6.next nw13
          replace hB7 := hB7.next nw13
          replace hDb := hDb.next nw13
          replace hAp := hAp.next nw13
          replace hszB := Nat.le_trans hszB nw13.gr.size
          have hE58 : Els (kInt .u64) K13 (some ⟨l58, 0, none⟩) [IntKind.u64.wrap rec[k]] := Els.nums hKl58 (by simp) (by simp only [List.mem_singleton]; rintro x rfl; exact inK_wrap _ _)
          refine wlc (first := []) (capt := [_]) H64 rfl rfl hb35 rfl (jadd (A := some ⟨l58, 0, none⟩) (bo := b7) (B := B) (ws := [IntKind.u64.wrap rec[k]]) hN.sat hszB hB7 hltB hAp hE58 (by simp only [List.length_cons, List.length_nil]; omega)) fun v w14 hR a56 H65 => ?_
          clear H64 a55
          obtain ⟨rfl, u2, hB7, hAp, hNS⟩ := hR
          replace hB6 := hB6.nextS hNS (by simp only [rowS]; omega)
          replace hDb := hDb.nextS hNS (by simp only [rowS]; omega)
          have hN := hN.transS hNS (fun b e => by simp only [rowS] at e; omega)
          replace hszB := Nat.le_trans hszB hNS.mod.size
          rw [List.append_assoc _ _ (wsB _), ← wsB_append, show (rec.map IntKind.u64.wrap).take k ++ [IntKind.u64.wrap rec[k]] = (rec.map IntKind.u64.wrap).take (k + 1) from by rw [List.take_succ_eq_append_getElem hkm]; simp] at hAp
          refine wl_end ?_
          refine bl_n ?_
          refine th_n ?_
          refine w_reg ?_
          first | refine wl1 H65 (r_addk rfl rfl (by simp only [InK]; omega)) rfl rfl rfl rfl fun a57 H66 => ?_ | refine wl1 H65 (r_add rfl rfl) rfl rfl rfl rfl fun a57 H66 => ?_
          clear H65 a56
          refine wl1 H66 (r_move rfl) rfl rfl rfl rfl fun a58 H67 => ?_
          clear H66 a57
          refine wl_end ?_
          exact th_n ⟨(k + 1, u2, K13), (by show rec.length - (k + 1) < rec.length - k; omega), H67.sub ⟨rfl, rfl, rfl, rfl, rfl, rfl, rfl, rfl, rfl, trivial⟩, by show k + 1 ≤ rec.length; omega, hleJ0.trans hlel58, hN, hszB, hB6, hDb, hB7, hAp⟩
        ·
          try simp only [decide_eq_true_eq, decide_eq_false_iff_not, Bool.or_eq_true, Bool.and_eq_true, Bool.or_eq_false_iff, Bool.and_eq_false_iff, Bool.not_eq_true', Bool.not_eq_false', Int.not_lt, Int.not_le, ne_eq, Decidable.not_not] at hc52
          refine wpIn_exit ?_
          refine th_x ?_
          refine th_x ?_
          refine bl_hit ?_
          refine th_n ?_
          refine wpIn_seq ?_
          refine w_reg ?_
          refine wl1 H57 (r_move rfl) rfl rfl rfl rfl fun a49 H68 => ?_
          clear H57 a48
          refine wl1 H68 (r_fld fld62_1 rfl) rfl rfl rfl rfl fun a50 H69 => ?_
          clear H68 a49
          refine wl1 H69 (r_load sc32 rfl (hB6.cell rfl)) rfl rfl rfl rfl fun a51 H70 => ?_
          clear H69 a50
          refine wl1 H70 (r_move rfl) rfl rfl rfl rfl fun a52 H71 => ?_
          clear H70 a51
          refine wlc  H71 rfl rfl hb24 rfl (tag_ret hN.sat hR) fun v w15 hR a53 H72 => ?_
          clear H71 a52
          obtain ⟨rfl, gw15⟩ := hR
          have hN := hN.ofGr gw15
          replace hB6 := hB6.gr gw15
          replace hB7 := hB7.gr gw15
          replace hDb := hDb.gr gw15
          replace hAp := hAp.gr gw15
          replace hszB := Nat.le_trans hszB gw15.size
          rw [show k = (rec.map IntKind.u64.wrap).length by simp; omega, List.take_length] at hAp
          refine s_lit1 (cs := [_]) H72 Try.underlying68 sz32 zv32 rfl rfl rfl (by simp [Value.oneCell']) rfl hN fun w16 l66 K16 hKl66 hlel66 hN nw16 hgel66 a54 H73 => ?_
          clear H72 a53
          replace hA := hA.up nw16.le
          replace hR := hR.up nw16.le
          replace hB6 := hB6.next nw16
          replace hB7 := hB7.next nw16
          replace hDb := hDb.next nw16
          replace hAp := hAp.next nw16
          replace hszB := Nat.le_trans hszB nw16.gr.size
          have hE66 : Els (kInt .u64) K16 (some ⟨l66, 0, none⟩) [dtag (jall l 0).key rec] := Els.nums hKl66 (by simp) (by simp only [List.mem_singleton]; rintro x rfl; exact dtag_inK _ _)
          refine wlc (first := []) (capt := [_]) H73 rfl rfl hb35 rfl (jadd (A := some ⟨l66, 0, none⟩) (bo := b7) (B := B) (ws := [dtag (jall l 0).key rec]) hN.sat hszB hB7 hltB hAp hE66 (by simp only [List.length_append, List.length_map, wsB_length, headW, List.length_cons, List.length_nil]; omega)) fun v w17 hR a55 H74 => ?_
          clear H73 a54
          obtain ⟨rfl, u3, hB7, hAp, hNS⟩ := hR
          replace hB6 := hB6.nextS hNS (by simp only [rowS]; omega)
          replace hDb := hDb.nextS hNS (by simp only [rowS]; omega)
          have hN := hN.transS hNS (fun b e => by simp only [rowS] at e; omega)
          replace hszB := Nat.le_trans hszB hNS.mod.size
          refine wl_end ?_
          refine th_n ?_
          refine wpIn_seq ?_
          refine w_reg ?_
          refine wl1 H74 (r_load sc22 rfl (hB7.cell rfl)) rfl rfl rfl rfl fun a56 H75 => ?_
          clear H74 a55
          refine wl1 H75 (r_assign rfl) rfl rfl rfl rfl fun a57 H76 => ?_
          clear H75 a56
          refine wl1 H76 (r_assign rfl) rfl rfl rfl rfl fun a58 H77 => ?_
          clear H76 a57
          refine wl_end ?_
          refine th_n ?_
          refine wpIn_ret ?_
          refine finM H77 hDb.at_ (res2 rfl H77 rfl rfl) ?_
          exact putPost_apx hN hDb (by omega) hltD hAp (by unfold putErr; rw [if_neg (by omega), if_neg (by omega), if_neg (by omega)])
end Go.Proofs.Yteinlgobadlgnaa
