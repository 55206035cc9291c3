/- Changes of links. -/
import Derived.Test.YtjjpaghloaggeaaTrB
set_option linter.unusedVariables false
set_option linter.unusedSimpArgs false
namespace Go.Proofs.Ytjjpaghloaggeaa
open Go.RowKit

set_option maxRecDepth 100000 in
set_option maxHeartbeats 400000 in
theorem changed_ret {A1 A2 : Option Addr} {c1 c2 : Nat} {x : Lk} {y : Lk} {fc : FuncId} {capt : List Value} {I : Im} {w : World} (hS : Sat I w) (hL : LkAt I x A1 c1 A2 c2) (hv : LkV x) (hbf : HasBody Try.prog fc)
    (hch : ∀ (J : Im) (W : World) (b2 b4 : Nat) (A3 A4 : Option Addr), New I w J W → w.heap.size ≤ b2 → w.heap.size ≤ b4 → b2 ≠ b4 → Box J W b2 [.int .u64 x.key, .slice A3 x.out.length x.out.length, .int .i64 x.base, .slice A4 x.inn.length x.inn.length, .int .i64 x.rcv] 26 → Box J W b4 [.int .u64 0, .slice none 0 0, .int .i64 0, .slice none 0 0, .int .i64 0] 26 → LkAt J x A3 x.out.length A4 x.inn.length → Ret Try.prog fc ([.pointer (some ⟨b2, 0, none⟩)] ++ capt) W (fun v W' => v = .tuple #[] ∧ ∃ J', Im.le J J' ∧ New I w J' W' ∧ ∃ A5 c5 A6 c6, Box J' W' b2 [.int .u64 y.key, .slice A5 y.out.length c5, .int .i64 y.base, .slice A6 y.inn.length c6, .int .i64 y.rcv] 26 ∧ Box J' W' b4 [.int .u64 0, .slice none 0 0, .int .i64 0, .slice none 0 0, .int .i64 0] 26 ∧ LkAt J' y A5 c5 A6 c6)) :
    Ret Try.prog 52 [.agg #[.int .u64 x.key, .slice A1 x.out.length c1, .int .i64 x.base, .slice A2 x.inn.length c2, .int .i64 x.rcv], .func (.func fc) #[] capt.toArray] w (LinkPost I w y 0) := by
  have hv1 := hv.o
  have hv2 := hv.i
  refine ret_of (N := 31) Try.func52 rfl rfl rfl fun a0 H0 => ?_
  have hN := New.refl hS
  simp only [argsEnv, Nat.zero_add, Nat.reduceAdd] at H0
  refine wpIn_seq ?_
  refine w_reg ?_
  refine s_box H0 rfl rfl hN fun w1 b2 hN gw1 hB2 hgeb2 heb2 a1 H1 => ?_
  clear H0 a0
  replace hB2 : Box _ _ _ [_, _, _, _, _] 26 := hB2
  refine s_alloc H1 zv26 rfl hN fun w2 b4 hN gw2 hB4 hgeb4 heb4 a2 H2 => ?_
  clear H1 a1
  replace hB4 : Box _ _ _ [.int .u64 0, .slice none 0 0, .int .i64 0, .slice none 0 0, .int .i64 0] 26 := hB4
  have hne_hB2_b4 := hB2.lt
  rw [← heb4] at hne_hB2_b4
  replace hB2 := hB2.gr gw2
  refine wl1 H2 (r_assign rfl) rfl rfl rfl rfl fun a3 H3 => ?_
  clear H2 a2
  refine wl_end ?_
  refine th_n ?_
  refine wpIn_seq ?_
  have hS0 := hN.sat
  have hNsz1 := hN.gr.size
  have hlt_hB2_1 := hB2.lt
  have hlt_hB4_1 := hB4.lt
  refine w_drawE (m := 9) (l0 := [(1, _), (2, _), (4, _), (5, _)]) hfol H3 ⟨rfl, rfl, rfl, rfl, trivial⟩ (by kernel_rfl) ?_
  refine ⟨_, false, (fun σ ι w1 hg hd hon => by
      exact OpOK.sub (r := [(1, _), (2, _), (4, _), (5, _)]) ⟨rfl, rfl, rfl, rfl, trivial⟩ (by
        exact OpOK.eq (r_fld fld26_1 rfl))
      ), (fun _ _ _ _ _ _ h => h), (FreeR.no _), ?_⟩
  refine ⟨_, false, (fun σ ι w1 hg hd hon => by
      have hN := hN.ofGr ((Gr.refl _).drew.trans hg)
      have hB2 := hB2.gr ((Gr.refl _).drew.trans hg)
      have hB4 := hB4.gr ((Gr.refl _).drew.trans hg)
      have f0 := hd 0 (by decide) _ rfl
      have e0 : σ 0 = _ := f0.1 trivial
      exact OpOK.sub (r := [(8, _), (1, _), (2, _), (4, _), (5, _)]) ⟨congrArg some e0, rfl, rfl, rfl, rfl, trivial⟩ (by
        exact OpOK.eq (r_load sc24 rfl (hB2.cell rfl)))
      ), (fun _ _ _ _ _ _ h => h), (FreeR.no _), ?_⟩
  refine ⟨_, false, (fun σ ι w1 hg hd hon => by
      have f1 := hd 1 (by decide) _ rfl
      have e1 : σ 1 = _ := f1.1 trivial
      exact OpOK.sub (r := [(9, _), (1, _), (2, _), (4, _), (5, _)]) ⟨congrArg some e1, rfl, rfl, rfl, rfl, trivial⟩ (by
        exact OpOK.eq (r_len Try.underlying24 rfl))
      ), (fun _ _ _ _ _ _ h => h), (FreeR.no _), ?_⟩
  refine ⟨_, false, (fun σ ι w1 hg hd hon => by
      have f2 := hd 2 (by decide) _ rfl
      have e2 : σ 2 = _ := f2.1 trivial
      exact OpOK.sub (r := [(10, _), (1, _), (2, _), (4, _), (5, _)]) ⟨congrArg some e2, rfl, rfl, rfl, rfl, trivial⟩ (by exact OpOK.make (n := x.out.length) Try.underlying24 nf23 rfl rfl rfl (by omega) rfl)
      ), (by intro σ v q w w' hg h; obtain ⟨h1, h2, h3⟩ := h; exact ⟨h1, h2, h3.gr hg⟩), (FreeR.no _), ?_⟩
  refine ⟨_, false, (fun σ ι w1 hg hd hon => by
      exact OpOK.sub (r := [(1, _), (2, _), (4, _), (5, _)]) ⟨rfl, rfl, rfl, rfl, trivial⟩ (by
        exact OpOK.eq (r_fld fld26_3 rfl))
      ), (fun _ _ _ _ _ _ h => h), (FreeR.no _), ?_⟩
  refine ⟨_, false, (fun σ ι w1 hg hd hon => by
      have hN := hN.ofGr ((Gr.refl _).drew.trans hg)
      have hB2 := hB2.gr ((Gr.refl _).drew.trans hg)
      have hB4 := hB4.gr ((Gr.refl _).drew.trans hg)
      have f4 := hd 4 (by decide) _ rfl
      have e4 : σ 4 = _ := f4.1 trivial
      exact OpOK.sub (r := [(12, _), (1, _), (2, _), (4, _), (5, _)]) ⟨congrArg some e4, rfl, rfl, rfl, rfl, trivial⟩ (by
        exact OpOK.eq (r_load sc24 rfl (hB2.cell rfl)))
      ), (fun _ _ _ _ _ _ h => h), (FreeR.no _), ?_⟩
  refine ⟨_, false, (fun σ ι w1 hg hd hon => by
      have f5 := hd 5 (by decide) _ rfl
      have e5 : σ 5 = _ := f5.1 trivial
      exact OpOK.sub (r := [(13, _), (1, _), (2, _), (4, _), (5, _)]) ⟨congrArg some e5, rfl, rfl, rfl, rfl, trivial⟩ (by
        exact OpOK.eq (r_len Try.underlying24 rfl))
      ), (fun _ _ _ _ _ _ h => h), (FreeR.no _), ?_⟩
  refine ⟨_, false, (fun σ ι w1 hg hd hon => by
      have f6 := hd 6 (by decide) _ rfl
      have e6 : σ 6 = _ := f6.1 trivial
      exact OpOK.sub (r := [(14, _), (1, _), (2, _), (4, _), (5, _)]) ⟨congrArg some e6, rfl, rfl, rfl, rfl, trivial⟩ (by exact OpOK.make (n := x.inn.length) Try.underlying24 nf23 rfl rfl rfl (by omega) rfl)
      ), (by intro σ v q w w' hg h; obtain ⟨h1, h2, h3⟩ := h; exact ⟨h1, h2, h3.gr hg⟩), (FreeR.no _), ?_⟩
  refine ⟨_, false, (fun σ ι w1 hg hd hon => by
      have f3 := hd 3 (by decide) _ rfl
      exact OpOK.sub (r := [(11, σ 3)]) ⟨rfl, trivial⟩ (by
        exact OpOK.eq (r_assign rfl))
      ), (fun _ _ _ _ _ _ h => h), (FreeR.no _), ?_⟩
  intro σ ι a4 w4 hgw4 H4 hd hap
  skip
  have hN0 := hN
  have hN := hN.ofGr ((Gr.refl _).drew.trans hgw4)
  replace hB2 := hB2.gr ((Gr.refl _).drew.trans hgw4)
  replace hB4 := hB4.gr ((Gr.refl _).drew.trans hgw4)
  obtain ⟨e3, hlqb11, hblb11⟩ := (hd 3 (by decide) _ rfl).1 trivial
  have hg0b11 := (hap.1 3 (by decide)).1
  have hJ0b11 := hS0.fresh hg0b11
  have hB11 : Box I w4 _ (List.replicate (x.out.length) (.slice none 0 0)) 23 := ⟨hblb11, hJ0b11⟩
  obtain ⟨e7, hlqb15, hblb15⟩ := (hd 7 (by decide) _ rfl).1 trivial
  have hg0b15 := (hap.1 7 (by decide)).1
  have hJ0b15 := hS0.fresh hg0b15
  have hB15 : Box I w4 _ (List.replicate (x.inn.length) (.slice none 0 0)) 23 := ⟨hblb15, hJ0b15⟩
  have e8 : σ 8 = _ := Eq.trans ((hd 8 (by decide) _ rfl).1 trivial) e3
  replace H4 := H4.sub (r := [(11, _), (15, _), (6, _), (1, _), (2, _), (4, _), (5, _)]) ⟨congrArg some e3, congrArg some e7, congrArg some e8, rfl, rfl, rfl, rfl, trivial⟩
  clear hd
  have hne_hB11_b15 : (ι 3).1 ≠ (ι 7).1 := by have := hap.2 3 7 (by decide) (by decide) (by decide); omega
  have hgeb11 := Nat.le_trans hNsz1 hg0b11
  clear hlqb11 hblb11 hJ0b11
  have hne_hB2_b11 := Nat.lt_of_lt_of_le hlt_hB2_1 hg0b11
  have hne_hB4_b11 := Nat.lt_of_lt_of_le hlt_hB4_1 hg0b11
  have hgeb15 := Nat.le_trans hNsz1 hg0b15
  clear hlqb15 hblb15 hJ0b15
  have hne_hB2_b15 := Nat.lt_of_lt_of_le hlt_hB2_1 hg0b15
  have hne_hB4_b15 := Nat.lt_of_lt_of_le hlt_hB4_1 hg0b15
  generalize (ι 3).1 = b11 at *
  generalize (ι 7).1 = b15 at *
  clear hap
  refine wl1 H4 (r_assign rfl) rfl rfl rfl rfl fun a5 H5 => ?_
  clear H4 a4
  refine wl_end ?_
  refine th_n ?_
  refine wpIn_seq ?_
  refine w_reg ?_
  refine wl1 H5 (r_move rfl) rfl rfl rfl rfl fun a6 H6 => ?_
  clear H5 a5
  refine wl1 H6 (r_fld fld26_1 rfl) rfl rfl rfl rfl fun a7 H7 => ?_
  clear H6 a6
  refine wl1 H7 (r_load sc24 rfl (hB2.cell rfl)) rfl rfl rfl rfl fun a8 H8 => ?_
  clear H7 a7
  refine s_copy (dk := kB) H8 Try.underlying24 sz23 rfl rfl rfl rfl hN hL.oe rfl hB11 (by simp) hgeb11 fun vso w5 hRo hvlw5 hN hB11 ew5 a9 H9 => ?_
  clear H8 a8
  replace hB2 := hB2.otherE ew5 (by omega)
  replace hB4 := hB4.otherE ew5 (by omega)
  replace hB15 := hB15.otherE ew5 (by omega)
  clear ew5
  refine wl_end ?_
  refine th_n ?_
  refine wpIn_seq ?_
  refine w_reg ?_
  refine wl1 H9 (r_move rfl) rfl rfl rfl rfl fun a10 H10 => ?_
  clear H9 a9
  refine wl1 H10 (r_fld fld26_3 rfl) rfl rfl rfl rfl fun a11 H11 => ?_
  clear H10 a10
  refine wl1 H11 (r_load sc24 rfl (hB2.cell rfl)) rfl rfl rfl rfl fun a12 H12 => ?_
  clear H11 a11
  refine s_copy (dk := kB) H12 Try.underlying24 sz23 rfl rfl rfl rfl hN hL.ie rfl hB15 (by simp) hgeb15 fun vsi w6 hRi hvlw6 hN hB15 ew6 a13 H13 => ?_
  clear H12 a12
  replace hB2 := hB2.otherE ew6 (by omega)
  replace hB4 := hB4.otherE ew6 (by omega)
  replace hB11 := hB11.otherE ew6 (by omega)
  clear ew6
  refine wl_end ?_
  refine th_n ?_
  refine wpIn_seq ?_
  refine w_reg ?_
  refine wl1 H13 (r_move rfl) rfl rfl rfl rfl fun a14 H14 => ?_
  clear H13 a13
  refine wl1 H14 (r_move rfl) rfl rfl rfl rfl fun a15 H15 => ?_
  clear H14 a14
  refine wl1 H15 (r_fld fld26_1 rfl) rfl rfl rfl rfl fun a16 H16 => ?_
  clear H15 a15
  refine s_store H16 sz24 rfl rfl rfl hN hB2 (by simp) hgeb2 fun w7 hN hB2 ew7 H17 => ?_
  clear H16
  replace hB4 := hB4.otherE ew7 (by omega)
  replace hB11 := hB11.otherE ew7 (by omega)
  replace hB15 := hB15.otherE ew7 (by omega)
  simp only [Nat.zero_add, Nat.add_zero, Nat.reduceAdd, Nat.reduceMul, List.set_cons_zero, List.set_cons_succ, spliceL] at hB2
  clear ew7
  refine wl1 H17 (r_fld fld26_3 rfl) rfl rfl rfl rfl fun a17 H18 => ?_
  clear H17 a16
  refine s_store H18 sz24 rfl rfl rfl hN hB2 (by simp) hgeb2 fun w8 hN hB2 ew8 H19 => ?_
  clear H18
  replace hB4 := hB4.otherE ew8 (by omega)
  replace hB11 := hB11.otherE ew8 (by omega)
  replace hB15 := hB15.otherE ew8 (by omega)
  simp only [Nat.zero_add, Nat.add_zero, Nat.reduceAdd, Nat.reduceMul, List.set_cons_zero, List.set_cons_succ, spliceL] at hB2
  clear ew8
  refine wl_end ?_
  refine th_n ?_
  refine wpIn_seq ?_
  refine w_reg ?_
  replace hB11 : Box I w8 b11 (vso ++ []) 23 := by rw [List.append_nil]; exact hB11
  replace hB15 : Box I w8 b15 (vsi ++ []) 23 := by rw [List.append_nil]; exact hB15
  obtain ⟨Kz8, hN, hEo, hleKz8, hsmKz8⟩ := hN.freezeRow hB11 hRo hgeb11 hL.oe.1
  replace hB2 := hB2.same (hsmKz8 _ (by omega))
  replace hB4 := hB4.same (hsmKz8 _ (by omega))
  replace hB15 := hB15.same (hsmKz8 _ (by omega))
  replace hL := hL.up hleKz8
  replace hRo := hRo.up hleKz8
  replace hRi := hRi.up hleKz8
  refine wl1 H19 (r_move rfl) rfl rfl rfl rfl fun a18 H20 => ?_
  clear H19 a17
  obtain ⟨Kz9, hN, hEi, hleKz9, hsmKz9⟩ := hN.freezeRow hB15 hRi hgeb15 hL.ie.1
  replace hB2 := hB2.same (hsmKz9 _ (by omega))
  replace hB4 := hB4.same (hsmKz9 _ (by omega))
  replace hL := hL.up hleKz9
  replace hRo := hRo.up hleKz9
  replace hRi := hRi.up hleKz9
  replace hEo := hEo.up hleKz9
  refine wlc (first := []) (capt := capt) H20 rfl rfl hbf rfl (hch Kz9 w8 b2 b4 (some ⟨b11, 0, none⟩) (some ⟨b15, 0, none⟩) hN hgeb2 hgeb4 (by omega) hB2 hB4 ⟨hL.kk, hL.kb, hL.kr, Nat.le_refl _, hEo, Nat.le_refl _, hEi⟩) fun v w11 hR a19 H21 => ?_
  clear H20 a18
  obtain ⟨rfl, J9, hle9, hN, A5, c5, A6, c6, hB2, hB4, hLy⟩ := hR
  refine wl_end ?_
  refine th_n ?_
  refine wpIn_seq ?_
  refine w_reg ?_
  refine wl1 H21 (r_loadA (cs := [_, _, _, _, _]) ag26 rfl hB2.agg) rfl rfl rfl rfl fun a20 H22 => ?_
  clear H21 a19
  refine s_storeA (vs := [_, _, _, _, _]) H22 sz26 (by simp) (by simp [Value.oneCell']) rfl rfl hN hB4 (by simp) hgeb4 fun w12 hN hB4 ew12 H23 => ?_
  clear H22
  replace hB2 := hB2.otherE ew12 (by omega)
  simp only [Nat.zero_add, Nat.add_zero, Nat.reduceAdd, Nat.reduceMul, List.set_cons_zero, List.set_cons_succ, spliceL] at hB4
  clear ew12
  refine wl1 H23 (r_assign rfl) rfl rfl rfl rfl fun a21 H24 => ?_
  clear H23 a20
  refine wl_end ?_
  refine th_n ?_
  refine wpIn_ret ?_
  refine fin_r H24 (resCT rfl H24 rfl hB4 ag26 rfl) ?_
  exact ⟨J9, hN, A5, c5, A6, c6, rfl, hLy⟩
set_option maxRecDepth 100000 in
set_option maxHeartbeats 400000 in
theorem take1_ret {x : Lk} {I J0 : Im} {w W0 : World} (hN0 : New I w J0 W0) {b2 b4 : Nat} {A3 A4 : Option Addr} (hgeb2 : w.heap.size ≤ b2) (hgeb4 : w.heap.size ≤ b4) (hne24 : b2 ≠ b4) (hB2 : Box J0 W0 b2 [.int .u64 x.key, .slice A3 x.out.length x.out.length, .int .i64 x.base, .slice A4 x.inn.length x.inn.length, .int .i64 x.rcv] 26) (hB4 : Box J0 W0 b4 [.int .u64 0, .slice none 0 0, .int .i64 0, .slice none 0 0, .int .i64 0] 26) (hL : LkAt J0 x A3 x.out.length A4 x.inn.length) (hx0 : 0 < x.inn.length) :
    Ret Try.prog 53 [.pointer (some ⟨b2, 0, none⟩)] W0 (fun v W' => v = .tuple #[] ∧ ∃ J', Im.le J0 J' ∧ New I w J' W' ∧ ∃ A5 c5 A6 c6, Box J' W' b2 [.int .u64 ({ x with inn := x.inn.drop 1 }).key, .slice A5 ({ x with inn := x.inn.drop 1 }).out.length c5, .int .i64 ({ x with inn := x.inn.drop 1 }).base, .slice A6 ({ x with inn := x.inn.drop 1 }).inn.length c6, .int .i64 ({ x with inn := x.inn.drop 1 }).rcv] 26 ∧ Box J' W' b4 [.int .u64 0, .slice none 0 0, .int .i64 0, .slice none 0 0, .int .i64 0] 26 ∧ LkAt J' ({ x with inn := x.inn.drop 1 }) A5 c5 A6 c6) := by
  have hle0 := Im.le.refl J0
  refine ret_of (N := 10) Try.func53 rfl rfl rfl fun a0 H0 => ?_
  have hN := hN0
  simp only [argsEnv, Nat.zero_add, Nat.reduceAdd] at H0
  refine w_reg ?_
  refine wl1 H0 (r_move rfl) rfl rfl rfl rfl fun a1 H1 => ?_
  clear H0 a0
  refine wl1 H1 (r_move rfl) rfl rfl rfl rfl fun a2 H2 => ?_
  clear H1 a1
  refine wl1 H2 (r_nilCheck rfl) rfl rfl rfl rfl fun a3 H3 => ?_
  clear H2 a2
  refine wl1 H3 (r_fld fld26_3 rfl) rfl rfl rfl rfl fun a4 H4 => ?_
  clear H3 a3
  refine wl1 H4 (r_load sc24 rfl (hB2.cell rfl)) rfl rfl rfl rfl fun a5 H5 => ?_
  clear H4 a4
  refine wl1 H5 (r_from (lo := 1) Try.underlying24 sz23 rfl rfl rfl (by omega) (by omega)) rfl rfl rfl rfl fun a6 H6 => ?_
  clear H5 a5
  refine wl1 H6 (r_nilCheck rfl) rfl rfl rfl rfl fun a7 H7 => ?_
  clear H6 a6
  refine wl1 H7 (r_fld fld26_3 rfl) rfl rfl rfl rfl fun a8 H8 => ?_
  clear H7 a7
  refine s_store H8 sz24 rfl rfl rfl hN hB2 (by simp) hgeb2 fun w1 hN hB2 ew1 H9 => ?_
  clear H8
  replace hB4 := hB4.otherE ew1 (by omega)
  simp only [Nat.zero_add, Nat.add_zero, Nat.reduceAdd, Nat.reduceMul, List.set_cons_zero, List.set_cons_succ, spliceL] at hB2
  clear ew1
  refine wl_end ?_
  refine fin_n H9 (res0 rfl) ?_
  refine ⟨rfl, J0, hle0, hN, A3, x.out.length, offS A4 1 1 x.inn.length, x.inn.length - 1, ?_, hB4, ⟨hL.kk, hL.kb, hL.kr, hL.oc, hL.oe, ?_, ?_⟩⟩
  · rw [show ({ x with inn := x.inn.drop 1 } : Lk).inn.length = x.inn.length - 1 by simp]
    exact hB2
  · simp
  · exact hL.ie.off (Nat.le_refl _)
set_option maxRecDepth 100000 in
set_option maxHeartbeats 400000 in
theorem send1_ret {x : Lk} {D : Option Addr} {cd b3 : Nat} {d : List Int} {I J0 : Im} {w W0 : World} (hN0 : New I w J0 W0) {b2 b4 : Nat} {A3 A4 : Option Addr} (hgeb2 : w.heap.size ≤ b2) (hgeb4 : w.heap.size ≤ b4) (hne24 : b2 ≠ b4) (hB2 : Box J0 W0 b2 [.int .u64 x.key, .slice A3 x.out.length x.out.length, .int .i64 x.base, .slice A4 x.inn.length x.inn.length, .int .i64 x.rcv] 26) (hB4 : Box J0 W0 b4 [.int .u64 0, .slice none 0 0, .int .i64 0, .slice none 0 0, .int .i64 0] 26) (hL : LkAt J0 x A3 x.out.length A4 x.inn.length) (hv1 : x.out.length ≤ 32) (hgc : b3 < w.heap.size) (hB3 : Box J0 W0 b3 [.slice D d.length cd] 23) (hD : Els (kInt .u8) J0 D d) (hdc : d.length ≤ cd) (hdl : d.length ≤ 1048000) :
    Ret Try.prog 55 [.pointer (some ⟨b2, 0, none⟩), .pointer (some ⟨b3, 0, none⟩)] W0 (fun v W' => v = .tuple #[] ∧ ∃ J', Im.le J0 J' ∧ New I w J' W' ∧ ∃ A5 c5 A6 c6, Box J' W' b2 [.int .u64 ({ x with out := x.out ++ [d] }).key, .slice A5 ({ x with out := x.out ++ [d] }).out.length c5, .int .i64 ({ x with out := x.out ++ [d] }).base, .slice A6 ({ x with out := x.out ++ [d] }).inn.length c6, .int .i64 ({ x with out := x.out ++ [d] }).rcv] 26 ∧ Box J' W' b4 [.int .u64 0, .slice none 0 0, .int .i64 0, .slice none 0 0, .int .i64 0] 26 ∧ LkAt J' ({ x with out := x.out ++ [d] }) A5 c5 A6 c6) := by
  have hle0 := Im.le.refl J0
  refine ret_of (N := 14) Try.func55 rfl rfl rfl fun a0 H0 => ?_
  have hN := hN0
  simp only [argsEnv, Nat.zero_add, Nat.reduceAdd] at H0
  obtain ⟨cs0, hRow0, hcl0, hraw0⟩ := hL.oe.rawOf rfl
  have hS0 := hN.sat
  have hNsz0 := hN.gr.size
  have hlt_hB2_0 := hB2.lt
  have hlt_hB4_0 := hB4.lt
  have hlt_hB3_0 := hB3.lt
  refine w_drawE (m := 9) (l0 := [(0, _), (1, _)]) hfol H0 ⟨rfl, rfl, trivial⟩ (by kernel_rfl) ?_
  refine ⟨_, false, (fun σ ι w1 hg hd hon => by
      exact OpOK.sub (r := [(0, _), (1, _)]) ⟨rfl, rfl, trivial⟩ (by
        exact OpOK.eq (r_move rfl))
      ), (fun _ _ _ _ _ _ h => h), (FreeR.no _), ?_⟩
  refine ⟨_, false, (fun σ ι w1 hg hd hon => by
      exact OpOK.sub (r := [(0, _), (1, _)]) ⟨rfl, rfl, trivial⟩ (by
        exact OpOK.eq (r_move rfl))
      ), (fun _ _ _ _ _ _ h => h), (FreeR.no _), ?_⟩
  refine ⟨_, false, (fun σ ι w1 hg hd hon => by
      have f1 := hd 1 (by decide) _ rfl
      have e1 : σ 1 = _ := f1.1 trivial
      exact OpOK.sub (r := [(4, _), (0, _), (1, _)]) ⟨congrArg some e1, rfl, rfl, trivial⟩ (by
        exact OpOK.eq (r_nilCheck rfl))
      ), (fun _ _ _ _ _ _ h => h), (FreeR.no _), ?_⟩
  refine ⟨_, false, (fun σ ι w1 hg hd hon => by
      have f2 := hd 2 (by decide) _ rfl
      have e2 : σ 2 = _ := f2.1 trivial
      exact OpOK.sub (r := [(5, _), (0, _), (1, _)]) ⟨congrArg some e2, rfl, rfl, trivial⟩ (by
        exact OpOK.eq (r_fld fld26_1 rfl))
      ), (fun _ _ _ _ _ _ h => h), (FreeR.no _), ?_⟩
  refine ⟨_, false, (fun σ ι w1 hg hd hon => by
      have hN := hN.ofGr ((Gr.refl _).drew.trans hg)
      have hB2 := hB2.gr ((Gr.refl _).drew.trans hg)
      have hB4 := hB4.gr ((Gr.refl _).drew.trans hg)
      have hB3 := hB3.gr ((Gr.refl _).drew.trans hg)
      have f3 := hd 3 (by decide) _ rfl
      have e3 : σ 3 = _ := f3.1 trivial
      exact OpOK.sub (r := [(6, _), (0, _), (1, _)]) ⟨congrArg some e3, rfl, rfl, trivial⟩ (by
        exact OpOK.eq (r_load sc24 rfl (hB2.cell rfl)))
      ), (fun _ _ _ _ _ _ h => h), (FreeR.no _), ?_⟩
  refine ⟨_, false, (fun σ ι w1 hg hd hon => by
      have hN := hN.ofGr ((Gr.refl _).drew.trans hg)
      have hB2 := hB2.gr ((Gr.refl _).drew.trans hg)
      have hB4 := hB4.gr ((Gr.refl _).drew.trans hg)
      have hB3 := hB3.gr ((Gr.refl _).drew.trans hg)
      exact OpOK.sub (r := [(0, _), (1, _)]) ⟨rfl, rfl, trivial⟩ (by
        exact OpOK.eq (r_load sc23 rfl (hB3.cell rfl)))
      ), (fun _ _ _ _ _ _ h => h), (FreeR.no _), ?_⟩
  refine ⟨_, true, (fun σ ι w1 hg hd hon => by
      have hN := hN.ofGr ((Gr.refl _).drew.trans hg)
      have hB2 := hB2.gr ((Gr.refl _).drew.trans hg)
      have hB4 := hB4.gr ((Gr.refl _).drew.trans hg)
      have hB3 := hB3.gr ((Gr.refl _).drew.trans hg)
      have f5 := hd 5 (by decide) _ rfl
      have e5 : σ 5 = _ := f5.1 trivial
      skip
      exact CallOK.sub (r := [(8, _), (0, _), (1, _)]) ⟨congrArg some e5, rfl, rfl, trivial⟩ (by
        exact CallOK.M (Φ := CL d) (enters_of rfl rfl hb54) (cloneΦ hN.sat hD (by omega)))
      ), (by exact monoOwn (J := J0) (Φ := fun _ => CL d)), (fun _ _ _ _ _ _ h => h), ?_⟩
  refine ⟨_, false, (fun σ ι w1 hg hd hon => by
      have hN := hN.ofGr ((Gr.refl _).drew.trans hg)
      have hB2 := hB2.gr ((Gr.refl _).drew.trans hg)
      have hB4 := hB4.gr ((Gr.refl _).drew.trans hg)
      have hB3 := hB3.gr ((Gr.refl _).drew.trans hg)
      have f6 := hd 6 (by decide) _ rfl
      exact OpOK.sub (r := [(9, σ 6)]) ⟨rfl, trivial⟩ (by exact OpOK.litS (cs := [σ 6]) Try.underlying24 sz23 zv23 rfl rfl rfl (by intro v hv; simp only [List.mem_singleton] at hv; subst hv; obtain ⟨_, _, _, _, e9, _⟩ := (hd 6 (by decide) _ rfl).1 trivial; rw [e9]; rfl))
      ), (by intro σ v q w w' hg h; obtain ⟨h1, h2, h3⟩ := h; exact ⟨h1, h2, h3.gr hg⟩), (FreeR.no _), ?_⟩
  refine ⟨_, false, (fun σ ι w1 hg hd hon => by
      have hN := hN.ofGr ((Gr.refl _).drew.trans hg)
      have hB2 := hB2.gr ((Gr.refl _).drew.trans hg)
      have hB4 := hB4.gr ((Gr.refl _).drew.trans hg)
      have hB3 := hB3.gr ((Gr.refl _).drew.trans hg)
      have f4 := hd 4 (by decide) _ rfl
      have f7 := hd 7 (by decide) _ rfl
      have e4 : σ 4 = _ := f4.1 trivial
      obtain ⟨e7, _, hbl7⟩ := f7.1 trivial
      exact OpOK.sub (r := [(7, _), (10, _), (0, _), (1, _)]) ⟨congrArg some e4, congrArg some e7, rfl, rfl, trivial⟩ (by exact OpOK.appR (cs := cs0) (ys := [σ 6]) rfl rfl Try.underlying24 nf23 rfl (by decide) (by omega) rfl (by decide) (hraw0 _ hN.sat) (blk_raw hbl7 (by intro v hv; simp only [List.mem_singleton] at hv; subst hv; obtain ⟨_, _, _, _, e9, _⟩ := (hd 6 (by decide) _ rfl).1 trivial; rw [e9]; rfl) (by simp)) (by omega))
      ), (by intro σ v q w w' hg h; obtain ⟨g, cap, rest, h1, h2, h3, h4, h5⟩ := h; exact ⟨g, cap, rest, h1, h2, h3, h4, h5.gr hg⟩), (FreeR.no _), ?_⟩
  intro σ ι a1 w2 hgw2 H1 hd hap
  skip
  have hN0 := hN
  have hN := hN.ofGr ((Gr.refl _).drew.trans hgw2)
  have hNd := (New.refl (hS0.drewS)).ofGr hgw2
  obtain ⟨K6, hP6, A7, c7, e6, hc7, hE7⟩ := (hd 6 (by decide) _ rfl).1 trivial
  replace hE7 := hE7.up (joinI_right hNd.sat hP6.sat)
  replace hNd := hNd.part hNd.le hP6 (hap.1 6 (by decide)).1
  replace hB2 := (hB2.gr (Gr.refl _).drew).next hNd
  replace hB4 := (hB4.gr (Gr.refl _).drew).next hNd
  replace hB3 := (hB3.gr (Gr.refl _).drew).next hNd
  replace hL := hL.up hNd.le
  replace hD := hD.up hNd.le
  replace hRow0 := hRow0.up hNd.le
  replace hle0 := hle0.trans hNd.le
  have hN := hN0.drew.trans hNd
  have e0 : σ 0 = _ := (hd 0 (by decide) _ rfl).1 trivial
  obtain ⟨gR8, capR8, restR8, e8, hcR8, hgq8, hgr8, hblR8⟩ := (hd 8 (by decide) _ rfl).1 trivial
  have hg0R8 := (hap.1 8 (by decide)).1
  have hJ0R8 := hS0.fresh (Nat.le_trans hg0R8 hgq8)
  have hBR : Box (joinI J0 K6) w2 gR8 _ 23 := ⟨hblR8, (joinI_none hJ0R8 (hP6.none hJ0R8 (by have := hap.2 6 8 (by decide) (by decide) (by decide); omega)))⟩
  have hgebR := Nat.le_trans hNsz0 (Nat.le_trans hg0R8 hgq8)
  have hne_hB2_R := Nat.lt_of_lt_of_le hlt_hB2_0 (Nat.le_trans hg0R8 hgq8)
  have hne_hB4_R := Nat.lt_of_lt_of_le hlt_hB4_0 (Nat.le_trans hg0R8 hgq8)
  have hne_hB3_R := Nat.lt_of_lt_of_le hlt_hB3_0 (Nat.le_trans hg0R8 hgq8)
  replace H1 := H1.sub (r := [(3, _), (11, _), (0, _), (1, _)]) ⟨congrArg some e0, congrArg some e8, rfl, rfl, trivial⟩
  clear hd
  clear hap
  rw [e6] at hBR
  refine wl1 H1 (r_nilCheck rfl) rfl rfl rfl rfl fun a2 H2 => ?_
  clear H1 a1
  refine wl1 H2 (r_fld fld26_1 rfl) rfl rfl rfl rfl fun a3 H3 => ?_
  clear H2 a2
  refine s_store H3 sz24 rfl rfl rfl hN hB2 (by simp) hgeb2 fun w3 hN hB2 ew3 H4 => ?_
  clear H3
  replace hB4 := hB4.otherE ew3 (by omega)
  replace hB3 := hB3.otherE ew3 (by omega)
  replace hBR := hBR.otherE ew3 (by omega)
  simp only [Nat.zero_add, Nat.add_zero, Nat.reduceAdd, Nat.reduceMul, List.set_cons_zero, List.set_cons_succ, spliceL] at hB2
  clear ew3
  refine wl_end ?_
  refine fin_n H4 (res0 rfl) ?_
  have hRd : Row kB (joinI J0 K6) (cs0 ++ [.slice A7 d.length c7]) (x.out ++ [d]) := hRow0.append (Row.one ⟨A7, c7, rfl, hc7, hE7⟩)
  obtain ⟨K9, hN9, hE9, hle9, hsm9⟩ := hN.freezeRow hBR hRd hgebR (by simp; omega)
  refine ⟨rfl, K9, hle0.trans hle9, hN9, some ⟨gR8, 0, none⟩, capR8, A4, x.inn.length, ?_, hB4.same (hsm9 _ (by omega)), ⟨hL.kk, hL.kb, hL.kr, ?_, hE9, hL.ic, hL.ie.up hle9⟩⟩
  · rw [show ({ x with out := x.out ++ [d] } : Lk).out.length = x.out.length + 1 by simp]
    exact hB2.same (hsm9 _ (by omega))
  · simp; omega
end Go.Proofs.Ytjjpaghloaggeaa
