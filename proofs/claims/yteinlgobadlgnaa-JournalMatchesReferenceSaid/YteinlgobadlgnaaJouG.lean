/- The whole part of a journal. -/
import Derived.Test.YteinlgobadlgnaaJouF
set_option linter.unusedVariables false
set_option linter.unusedSimpArgs false
namespace Go.Proofs.Yteinlgobadlgnaa
open Go.RowKit


/-- Between two rounds of a range that does nothing. -/
def IdleInv (I : Im) (w : World) (L Dd : Nat) (rc : Loop) (rs : List (List Int)) (J : Im) (W : World) : Prop :=
  New I w J W ∧ Ob J W L (.loop rc) ∧ Ob J W Dd (.deferred (some []))

set_option maxRecDepth 100000 in
set_option maxHeartbeats 400000 in
theorem jwhole {A : Option Addr} {c : Nat} {l : List Int} {I : Im} {w : World} (hS : Sat I w) (hA : Els (kInt .u8) I A l) (hlc : l.length ≤ c) (hmax : l.length ≤ 16777216) :
    Ret Try.prog 18 [.slice A l.length c] w (fun v w' => v = .slice A (jall l 0).off c ∧ Gr w w') := by
  refine ret_ofM (N := 16) Try.func18 rfl rfl rfl fun a0 H0 => ?_
  have hN := New.refl hS
  simp only [argsEnv, Nat.zero_add, Nat.reduceAdd] at H0
  refine wpIn_seq ?_
  refine w_reg ?_
  refine wl1 H0 (r_assign rfl) rfl rfl rfl rfl fun a1 H1 => ?_
  clear H0 a0
  refine wl_end ?_
  refine th_n ?_
  refine wpIn_seq ?_
  refine w_reg ?_
  refine wl1 H1 (r_move rfl) rfl rfl rfl rfl fun a2 H2 => ?_
  clear H1 a1
  refine wl1 H2 (r_build (v := .agg #[.slice A l.length c, .int .u64 0]) rfl (fun w => by kernel_rfl)) rfl rfl rfl rfl fun a3 H3 => ?_
  clear H2 a2
  refine s_alloc H3 zv62 rfl hN fun w1 b3 hN gw1 hB3 hgeb3 heb3 a4 H4 => ?_
  clear H3 a3
  replace hB3 : Box _ _ _ [.slice none 0 0, .int .u64 0] 62 := hB3
  refine s_storeA (vs := [_, _]) H4 sz62 (by simp) (by simp [Value.oneCell']) rfl rfl hN hB3 (by simp) hgeb3 fun w2 hN hB3 ew2 H5 => ?_
  clear H4
  simp only [Nat.zero_add, Nat.add_zero, Nat.reduceAdd, Nat.reduceMul, List.set_cons_zero, List.set_cons_succ, spliceL] at hB3
  clear ew2
  refine wl_end ?_
  refine th_n ?_
  refine wpIn_seq ?_
  refine wpIn_seq ?_
  refine w_reg ?_
  refine wl1 H5 (r_makeFunc rfl rfl) rfl rfl rfl rfl fun a5 H6 => ?_
  clear H5 a4
  refine wl_end ?_
  refine th_n ?_
  refine wpIn_block ?_
  have hlt3 := hB3.lt
  refine w_range' (first := [_]) (capt := []) H6 rfl hb30 ?_
  intro rc L Dd w3 hDge hDL hLs gw3 hL hD hrs hrp hrt hrps hra hrb
  have hN := hN.ofGr gw3
  replace hB3 := hB3.gr gw3
  have hszL := gw3.size
  have hgeL : w.heap.size ≤ L := by omega
  have hLb : Ob I w3 L (.loop rc) := ⟨hL, hS.fresh (by omega)⟩
  have hDb : Ob I w3 Dd (.deferred (some [])) := ⟨hD, hS.fresh (by omega)⟩
  have h0 : IdleInv I w L Dd rc [] I w3 := ⟨hN, hLb, hDb⟩
  have hround : ∀ rs r J W b cs, IdleInv I w L Dd rc rs J W → Sat J W → Box J W b3 cs 62 → Els (kInt .i64) J (some ⟨b, 0, none⟩) r → r.length ≤ 256 → rs.length ≤ 16777216 → YRet Try.prog L [.slice (some ⟨b, 0, none⟩) r.length r.length] W (fun v W' => v = .bool true ∧ ∃ J', Im.le J J' ∧ Sat J' W' ∧ Box J' W' b3 cs 62 ∧ IdleInv I w L Dd rc (rs ++ [r]) J' W') := by
    intro rs r J W b cs ⟨hN, hLb, hDb⟩ hSW hB3 hr hrl hrs9
    have hLW := hLb.at_
    clear hL hD
    refine yield_ofA (x := .slice (some ⟨b, 0, none⟩) r.length r.length) hLW hrs hrps hrt hra hrb H6 rfl ?_
    intro a6 H7
    refine wpIn_skip ?_
    refine th_n ⟨rfl, ?_⟩
    obtain ⟨W1, hW1⟩ : ∃ x, x = setO W L (.loop { rc with state := .busy }) := ⟨_, rfl⟩
    rw [← hW1]
    replace hN : New I w J W1 := by rw [hW1]; exact hN.setO hgeL hLb.im _
    replace hB3 : Box J W1 b3 cs 62 := by rw [hW1]; exact hB3.otherO (by omega) _
    replace hDb : Ob J W1 Dd (.deferred (some [])) := by rw [hW1]; exact hDb.otherO (by omega) _
    replace hLb : Ob J W1 L (.loop { rc with state := .busy }) := by rw [hW1]; exact hLb.set _
    clear hW1
    have hleJ := Im.le.refl J
    refine wpIn_block ?_
    refine wpIn_skip ?_
    refine bl_n ?_
    refine round_n hLb.at_ hrs hrp ?_
    exact ⟨rfl, J, hleJ, (hN.setO hgeL hLb.im _).sat, hB3.otherO (by omega) _, hN.setO hgeL hLb.im _, hLb.set _, hDb.otherO (by omega) _⟩
  refine (jrecords (Inv := IdleInv I w L Dd rc) hN.sat hB3 hA hlc hmax (fun rs J W J' W' ⟨h1, h2, h3⟩ hk => ⟨h1.transS hk (fun b e => by subst e; exact hgeb3), h2.nextS hk (by omega), h3.nextS hk (by omega)⟩) hround h0).mono ?_
  rintro v w4 ⟨J3, hle3, hS3, ⟨hN3, hLb, hDb⟩, A3, c3, hB3, hE3, hcc3⟩
  have hL3 := hLb.at_
  refine ⟨hL3, ?_⟩
  intro a6 H8
  obtain ⟨w5, hw4⟩ : ∃ x, x = setO w4 L (.loop { rc with state := .exhausted }) := ⟨_, rfl⟩
  rw [← hw4]
  replace hN : New I w J3 w5 := by rw [hw4]; exact hN3.setO hgeL hLb.im _
  replace hB3 : Box J3 w5 b3 [.slice A3 (l.length - (jall l 0).off) c3, .int .u64 (jall l 0).key] 62 := by rw [hw4]; exact hB3.otherO (by omega) _
  replace hDb : Ob J3 w5 Dd (.deferred (some [])) := by rw [hw4]; exact hDb.otherO (by omega) _
  clear hw4
  refine bl_n ?_
  refine th_n ?_
  refine wpIn_seq ?_
  refine w_reg ?_
  refine wl1 H8 (r_move rfl) rfl rfl rfl rfl fun a7 H9 => ?_
  clear H8 a6
  refine wl1 H9 (r_move rfl) rfl rfl rfl rfl fun a8 H10 => ?_
  clear H9 a7
  refine wl1 H10 (r_len Try.underlying22 rfl) rfl rfl rfl rfl fun a9 H11 => ?_
  clear H10 a8
  refine wl1 H11 (r_fld fld62_0 rfl) rfl rfl rfl rfl fun a10 H12 => ?_
  clear H11 a9
  refine wl1 H12 (r_load sc22 rfl (hB3.cell rfl)) rfl rfl rfl rfl fun a11 H13 => ?_
  clear H12 a10
  refine wl1 H13 (r_len Try.underlying22 rfl) rfl rfl rfl rfl fun a12 H14 => ?_
  clear H13 a11
  first | refine wl1 H14 (r_subk rfl rfl (by simp only [InK]; omega)) rfl rfl rfl rfl fun a13 H15 => ?_ | refine wl1 H14 (r_sub rfl rfl) rfl rfl rfl rfl fun a13 H15 => ?_
  clear H14 a12
  have hjo := @jall_off l 0
  rw [show ((l.length : Int) - ((l.length - (jall l 0).off : Nat) : Int)) = (((jall l 0).off : Nat) : Int) by omega] at H15
  refine wl1 H15 (r_upto (hi := (jall l 0).off) Try.underlying22 sz5 rfl rfl rfl (by omega)) rfl rfl rfl rfl fun a14 H16 => ?_
  clear H15 a13
  refine wl1 H16 (r_assign rfl) rfl rfl rfl rfl fun a15 H17 => ?_
  clear H16 a14
  refine wl_end ?_
  refine th_n ?_
  refine wpIn_ret ?_
  refine finM H17 hDb.at_ (res1 rfl H17 rfl) ?_
  exact ⟨rfl, (hN.setO (by omega) hDb.im _).gr⟩
set_option maxRecDepth 100000 in
set_option maxHeartbeats 400000 in
theorem jcut {A : Option Addr} {c : Nat} {n : Int} {l : List Int} {I : Im} {w : World} (hS : Sat I w) (hlc : l.length ≤ c) :
    Ret Try.prog 20 [.slice A l.length c, .int .i64 n] w (fun v w' => v = .slice A (min (max n 0) (l.length : Int)).toNat c ∧ Gr w w') := by
  refine ret_of (N := 12) Try.func20 rfl rfl rfl fun a0 H0 => ?_
  have hN := New.refl hS
  simp only [argsEnv, Nat.zero_add, Nat.reduceAdd] at H0
  refine wpIn_seq ?_
  refine w_reg ?_
  refine wl1 H0 (r_assign rfl) rfl rfl rfl rfl fun a1 H1 => ?_
  clear H0 a0
  refine wl_end ?_
  refine th_n ?_
  refine wpIn_seq ?_
  refine w_reg ?_
  refine wl1 H1 (r_move rfl) rfl rfl rfl rfl fun a2 H2 => ?_
  clear H1 a1
  refine wl1 H2 (r_move rfl) rfl rfl rfl rfl fun a3 H3 => ?_
  clear H2 a2
  refine wl1 H3 (r_max rfl rfl) rfl rfl rfl rfl fun a4 H4 => ?_
  clear H3 a3
  refine wl1 H4 (r_move rfl) rfl rfl rfl rfl fun a5 H5 => ?_
  clear H4 a4
  refine wl1 H5 (r_len Try.underlying22 rfl) rfl rfl rfl rfl fun a6 H6 => ?_
  clear H5 a5
  refine wl1 H6 (r_min rfl rfl) rfl rfl rfl rfl fun a7 H7 => ?_
  clear H6 a6
  refine wl1 H7 (r_upto (hi := (min (max n 0) (l.length : Int)).toNat) Try.underlying22 sz5 rfl rfl (by omega) (by omega)) rfl rfl rfl rfl fun a8 H8 => ?_
  clear H7 a7
  refine wl1 H8 (r_assign rfl) rfl rfl rfl rfl fun a9 H9 => ?_
  clear H8 a8
  refine wl_end ?_
  refine th_n ?_
  refine wpIn_ret ?_
  refine fin_r H9 (res1 rfl H9 rfl) ?_
  exact ⟨rfl, hN.gr⟩
end Go.Proofs.Yteinlgobadlgnaa
