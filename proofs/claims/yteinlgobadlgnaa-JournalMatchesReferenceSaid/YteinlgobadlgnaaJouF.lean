/- Reading a journal. -/
import Derived.Test.YteinlgobadlgnaaJouE
set_option linter.unusedVariables false
set_option linter.unusedSimpArgs false
namespace Go.Proofs.Yteinlgobadlgnaa
open Go.RowKit


/-- Between two rounds of Read. -/
def ReadInv (I : Im) (w : World) (b6 L Dd B : Nat) (rc : Loop) (rs : List (List Int)) (J : Im) (W : World) : Prop :=
  New I w J W ∧ Ob J W L (.loop rc) ∧ Ob J W Dd (.deferred (some [])) ∧ ∃ v, Box J W b6 [v] 23 ∧ OwnK (kSl (kInt .i64)) J W B 29 v rs
def ReadPost (I : Im) (w : World) (l : List Int) (v : Value) (w' : World) : Prop :=
  ∃ J A1 c1 A2 c2, New I w J w' ∧ v = .tuple #[.slice A1 (jall l 0).recs.length c1, .slice A2 (l.length - (jall l 0).off) c2, .int .i64 (if (jall l 0).off < l.length then 60 else 0)] ∧
    (jall l 0).recs.length ≤ c1 ∧ Els (kSl (kInt .i64)) J A1 (jall l 0).recs ∧ l.length - (jall l 0).off ≤ c2 ∧ Els (kInt .u8) J A2 (l.drop (jall l 0).off)
theorem readPost {I J : Im} {w W : World} {l : List Int} {Dd B : Nat} {v v2 v3 : Value} (hN : New I w J W) (hD : Ob J W Dd (.deferred (some []))) (hge : w.heap.size ≤ Dd) (hB : Dd < B) (hO : OwnK (kSl (kInt .i64)) J W B 29 v (jall l 0).recs)
    (h : ∃ A2 c2, v2 = .slice A2 (l.length - (jall l 0).off) c2 ∧ l.length - (jall l 0).off ≤ c2 ∧ Els (kInt .u8) J A2 (l.drop (jall l 0).off)) (h3 : v3 = .int .i64 (if (jall l 0).off < l.length then 60 else 0)) :
    ReadPost I w l (.tuple #[v, v2, v3]) (setO W Dd (.deferred none)) := by
  obtain ⟨A2, c2, rfl, hc2, hE2⟩ := h
  obtain ⟨K, A, c, hK, hle, _, rfl, hc, hE⟩ := (hO.otherO hB (.deferred none)).freeze (hN.setO hge hD.im _) (by omega)
  exact ⟨K, A, c, A2, c2, hK, by rw [h3], hc, hE, hc2, hE2.up hle⟩

set_option maxRecDepth 100000 in
set_option maxHeartbeats 400000 in
theorem jread {A : Option Addr} {c : Nat} {l : List Int} {I : Im} {w : World} (hS : Sat I w) (hA : Els (kInt .u8) I A l) (hlc : l.length ≤ c) (hmax : l.length ≤ 16777216) :
    Ret Try.prog 25 [.slice A l.length c] w (ReadPost I w l) := by
  refine ret_ofM (N := 24) Try.func25 rfl rfl rfl fun a0 H0 => ?_
  have hN := New.refl hS
  simp only [argsEnv, Nat.zero_add, Nat.reduceAdd] at H0
  refine wpIn_seq ?_
  refine w_reg ?_
  refine wl1 H0 (r_assign rfl) rfl rfl rfl rfl fun a1 H1 => ?_
  clear H0 a0
  refine wl1 H1 (r_assign rfl) rfl rfl rfl rfl fun a2 H2 => ?_
  clear H1 a1
  refine wl1 H2 (r_assign rfl) rfl rfl rfl rfl fun a3 H3 => ?_
  clear H2 a2
  refine wl_end ?_
  refine th_n ?_
  refine wpIn_seq ?_
  refine w_reg ?_
  refine wl1 H3 (r_move rfl) rfl rfl rfl rfl fun a4 H4 => ?_
  clear H3 a3
  refine wl1 H4 (r_build (v := .agg #[.slice A l.length c, .int .u64 0]) rfl (fun w => by kernel_rfl)) rfl rfl rfl rfl fun a5 H5 => ?_
  clear H4 a4
  refine s_alloc H5 zv62 rfl hN fun w1 b5 hN gw1 hB5 hgeb5 heb5 a6 H6 => ?_
  clear H5 a5
  replace hB5 : Box _ _ _ [.slice none 0 0, .int .u64 0] 62 := hB5
  refine s_storeA (vs := [_, _]) H6 sz62 (by simp) (by simp [Value.oneCell']) rfl rfl hN hB5 (by simp) hgeb5 fun w2 hN hB5 ew2 H7 => ?_
  clear H6
  simp only [Nat.zero_add, Nat.add_zero, Nat.reduceAdd, Nat.reduceMul, List.set_cons_zero, List.set_cons_succ, spliceL] at hB5
  clear ew2
  have hlt50 := hB5.lt
  refine wl_end ?_
  refine th_n ?_
  refine wpIn_seq ?_
  refine w_reg ?_
  refine s_alloc H7 zv23 rfl hN fun w3 b6 hN gw3 hB6 hgeb6 heb6 a7 H8 => ?_
  clear H7 a6
  replace hB6 : Box _ _ _ [.slice none 0 0] 23 := hB6
  have hne_hB5_b6 := hB5.lt
  rw [← heb6] at hne_hB5_b6
  replace hB5 := hB5.gr gw3
  refine wl_end ?_
  refine th_n ?_
  refine wpIn_seq ?_
  refine wpIn_seq ?_
  refine w_reg ?_
  refine wl1 H8 (r_makeFunc rfl rfl) rfl rfl rfl rfl fun a8 H9 => ?_
  clear H8 a7
  refine wl_end ?_
  refine th_n ?_
  refine wpIn_block ?_
  have hlt5 := hB5.lt
  have hlt6 := hB6.lt
  have hne56 : b5 < b6 := by omega
  refine w_range' (first := [_]) (capt := []) H9 rfl hb30 ?_
  intro rc L Dd w4 hDge hDL hLs gw4 hL hD hrs hrp hrt hrps hra hrb
  have hN := hN.ofGr gw4
  replace hB5 := hB5.gr gw4
  replace hB6 := hB6.gr gw4
  have hszL := gw4.size
  have hgeL : w.heap.size ≤ L := by omega
  have hLb : Ob I w4 L (.loop rc) := ⟨hL, hS.fresh (by omega)⟩
  have hDb : Ob I w4 Dd (.deferred (some [])) := ⟨hD, hS.fresh (by omega)⟩
  obtain ⟨B, hBw⟩ : ∃ B, B = (w4).heap.size := ⟨_, rfl⟩
  have h0 : ReadInv I w b6 L Dd B rc [] I w4 := ⟨hN, hLb, hDb, _, hB6, OwnK.nil _ _ _ _ _⟩
  have hround : ∀ rs r J W b cs, ReadInv I w b6 L Dd B rc rs J W → Sat J W → Box J W b5 cs 62 → Els (kInt .i64) J (some ⟨b, 0, none⟩) r → r.length ≤ 256 → rs.length ≤ 16777216 → YRet Try.prog L [.slice (some ⟨b, 0, none⟩) r.length r.length] W (fun v W' => v = .bool true ∧ ∃ J', Im.le J J' ∧ Sat J' W' ∧ Box J' W' b5 cs 62 ∧ ReadInv I w b6 L Dd B rc (rs ++ [r]) J' W') := by
    intro rs r J W b cs ⟨hN, hLb, hDb, v0, hB6, hO⟩ hSW hB5 hr hrl hrs9
    have hLW := hLb.at_
    clear hL hD
    refine yield_ofA (x := .slice (some ⟨b, 0, none⟩) r.length r.length) hLW hrs hrps hrt hra hrb H9 rfl ?_
    intro a9 H10
    refine w_reg ?_
    refine wl1 H10 (r_assign rfl) rfl rfl rfl rfl fun a10 H11 => ?_
    clear H10 a9
    refine wl_end ?_
    refine th_n ⟨rfl, ?_⟩
    obtain ⟨W1, hW1⟩ : ∃ x, x = setO W L (.loop { rc with state := .busy }) := ⟨_, rfl⟩
    rw [← hW1]
    replace hN : New I w J W1 := by rw [hW1]; exact hN.setO hgeL hLb.im _
    replace hB6 : Box J W1 b6 [v0] 23 := by rw [hW1]; exact hB6.otherO (by omega) _
    replace hB5 : Box J W1 b5 cs 62 := by rw [hW1]; exact hB5.otherO (by omega) _
    replace hDb : Ob J W1 Dd (.deferred (some [])) := by rw [hW1]; exact hDb.otherO (by omega) _
    replace hO : OwnK (kSl (kInt .i64)) J W1 B 29 v0 rs := by rw [hW1]; exact hO.otherO (by omega) _
    replace hLb : Ob J W1 L (.loop { rc with state := .busy }) := by rw [hW1]; exact hLb.set _
    clear hW1
    have hBW : B ≤ W1.heap.size := by have := hN.gr.size; have := hLb.lt; omega
    have hleJ := Im.le.refl J
    refine wpIn_block ?_
    refine w_reg ?_
    refine wl1 H11 (r_load sc23 rfl (hB6.cell rfl)) rfl rfl rfl rfl fun a11 H12 => ?_
    clear H11 a10
    refine wl1 H12 (r_move rfl) rfl rfl rfl rfl fun a12 H13 => ?_
    clear H12 a11
    refine s_lit1 (cs := [_]) H13 Try.underlying23 sz29 zv29 rfl rfl rfl (by simp [Value.oneCell']) rfl hN fun w5 l14 K5 hKl14 hlel14 hN nw5 hgel14 a13 H14 => ?_
    clear H13 a12
    replace hr := hr.up nw5.le
    replace hB6 := hB6.next nw5
    replace hB5 := hB5.next nw5
    replace hDb := hDb.next nw5
    replace hLb := hLb.next nw5
    replace hO := hO.next nw5
    have hEl : Els (kSl (kInt .i64)) K5 (some ⟨l14, 0, none⟩) [r] := Els.one hKl14 ⟨_, _, rfl, Nat.le_refl _, hr⟩
    replace hleJ := hleJ.trans hlel14
    refine s_appO (d := kSl (kInt .i64)) H14 rfl rfl Try.underlying23 nf29 rfl (by decide) (by decide) rfl hN hO hEl rfl (by omega) (by have := nw5.gr.size; omega) (by omega) fun vw6 w6 hO kw6 hN a14 H15 => ?_
    clear H14 a13
    replace hB6 := hB6.keep kw6 (by omega)
    replace hB5 := hB5.keep kw6 (by omega)
    replace hDb := hDb.keep kw6 (by omega)
    replace hLb := hLb.keep kw6 (by omega)
    refine s_store H15 sz23 (Apx.one (.inl hO)) rfl rfl hN hB6 (by simp) hgeb6 fun w7 hN hB6 ew7 H16 => ?_
    clear H15
    replace hB5 := hB5.otherE ew7 (by omega)
    replace hDb := hDb.otherE ew7 (by omega)
    replace hLb := hLb.otherE ew7 (by omega)
    replace hO := hO.otherE ew7 (by omega)
    simp only [Nat.zero_add, Nat.add_zero, Nat.reduceAdd, Nat.reduceMul, List.set_cons_zero, List.set_cons_succ, spliceL] at hB6
    clear ew7
    refine wl_end ?_
    refine bl_n ?_
    refine round_n hLb.at_ hrs hrp ?_
    exact ⟨rfl, K5, hleJ, (hN.setO hgeL hLb.im _).sat, hB5.otherO (by omega) _, hN.setO hgeL hLb.im _, hLb.set _, hDb.otherO (by omega) _, _, hB6.otherO (by omega) _, hO.otherO (by omega) _⟩
  refine (jrecords (Inv := ReadInv I w b6 L Dd B rc) hN.sat hB5 hA hlc hmax (fun rs J W J' W' ⟨h1, h2, h3, v, h4, h5⟩ hk => ⟨h1.transS hk (fun b e => by subst e; exact hgeb5), h2.nextS hk (by omega), h3.nextS hk (by omega), v, h4.nextS hk (by omega), h5.nextS hk (fun b hb => by omega)⟩) hround h0).mono ?_
  rintro v w8 ⟨J3, hle3, hS3, ⟨hN3, hLb, hDb, v3, hB6, hO⟩, A3, c3, hB5, hE3, hcc3⟩
  have hL3 := hLb.at_
  refine ⟨hL3, ?_⟩
  intro a9 H17
  obtain ⟨w9, hw4⟩ : ∃ x, x = setO w8 L (.loop { rc with state := .exhausted }) := ⟨_, rfl⟩
  rw [← hw4]
  replace hN : New I w J3 w9 := by rw [hw4]; exact hN3.setO hgeL hLb.im _
  replace hB6 : Box J3 w9 b6 [v3] 23 := by rw [hw4]; exact hB6.otherO (by omega) _
  replace hB5 : Box J3 w9 b5 [.slice A3 (l.length - (jall l 0).off) c3, .int .u64 (jall l 0).key] 62 := by rw [hw4]; exact hB5.otherO (by omega) _
  replace hDb : Ob J3 w9 Dd (.deferred (some [])) := by rw [hw4]; exact hDb.otherO (by omega) _
  replace hO : OwnK (kSl (kInt .i64)) J3 w9 B 29 v3 (jall l 0).recs := by rw [hw4]; exact hO.otherO (by omega) _
  clear hw4
  refine bl_n ?_
  refine th_n ?_
  refine wpIn_seq ?_
  refine wpIn_seq ?_
  refine w_reg ?_
  refine wl1 H17 (r_fld fld62_0 rfl) rfl rfl rfl rfl fun a10 H18 => ?_
  clear H17 a9
  refine wl1 H18 (r_load sc22 rfl (hB5.cell rfl)) rfl rfl rfl rfl fun a11 H19 => ?_
  clear H18 a10
  refine wl1 H19 (r_len Try.underlying22 rfl) rfl rfl rfl rfl fun a12 H20 => ?_
  clear H19 a11
  refine wl1 H20 (r_gtr rfl rfl) rfl rfl rfl rfl fun a13 H21 => ?_
  clear H20 a12
  refine wl_end ?_
  refine th_n ?_
  first | refine w_if H21 rfl (fun hc19 => ?_) (fun hc19 => ?_) | refine w_cond H21 rfl (fun hc19 => ?_) (fun hc19 => ?_)
  ·
    try simp only [decide_eq_true_eq, decide_eq_false_iff_not, Bool.or_eq_true, Bool.and_eq_true, Bool.or_eq_false_iff, Bool.and_eq_false_iff, Bool.not_eq_true', Bool.not_eq_false', Int.not_lt, Int.not_le, ne_eq, Decidable.not_not] at hc19
    refine wpIn_seq ?_
    have hS0 := hN.sat
    have hNsz7 := hN.gr.size
    refine w_drawE (m := 6) (l0 := [(5, _), (6, _)]) hfol H21 ⟨rfl, rfl, trivial⟩ (by kernel_rfl) ?_
    refine ⟨_, false, (fun σ ι w1 hg hd hon => by
        have hN := hN.ofGr ((Gr.refl _).drew.trans hg)
        have hB6 := hB6.gr ((Gr.refl _).drew.trans hg)
        have hB5 := hB5.gr ((Gr.refl _).drew.trans hg)
        have hDb := hDb.gr ((Gr.refl _).drew.trans hg)
        have hO := hO.gr ((Gr.refl _).drew.trans hg)
        exact OpOK.sub (r := [(5, _), (6, _)]) ⟨rfl, rfl, trivial⟩ (by
          exact OpOK.eq (r_load sc23 rfl (hB6.cell rfl)))
        ), (fun _ _ _ _ _ _ h => h), (FreeR.no _), ?_⟩
    refine ⟨_, false, (fun σ ι w1 hg hd hon => by
        exact OpOK.sub (r := [(5, _), (6, _)]) ⟨rfl, rfl, trivial⟩ (by
          exact OpOK.eq (r_fld fld62_0 rfl))
        ), (fun _ _ _ _ _ _ h => h), (FreeR.no _), ?_⟩
    refine ⟨_, false, (fun σ ι w1 hg hd hon => by
        have hN := hN.ofGr ((Gr.refl _).drew.trans hg)
        have hB6 := hB6.gr ((Gr.refl _).drew.trans hg)
        have hB5 := hB5.gr ((Gr.refl _).drew.trans hg)
        have hDb := hDb.gr ((Gr.refl _).drew.trans hg)
        have hO := hO.gr ((Gr.refl _).drew.trans hg)
        have f1 := hd 1 (by decide) _ rfl
        have e1 : σ 1 = _ := f1.1 trivial
        exact OpOK.sub (r := [(21, _), (5, _), (6, _)]) ⟨congrArg some e1, rfl, rfl, trivial⟩ (by
          exact OpOK.eq (r_load sc22 rfl (hB5.cell rfl)))
        ), (fun _ _ _ _ _ _ h => h), (FreeR.no _), ?_⟩
    refine ⟨_, false, (fun σ ι w1 hg hd hon => by
        have f0 := hd 0 (by decide) _ rfl
        have e0 : σ 0 = _ := f0.1 trivial
        exact OpOK.sub (r := [(20, _), (5, _), (6, _)]) ⟨congrArg some e0, rfl, rfl, trivial⟩ (by
          exact OpOK.eq (r_assign rfl))
        ), (fun _ _ _ _ _ _ h => h), (FreeR.no _), ?_⟩
    refine ⟨_, false, (fun σ ι w1 hg hd hon => by
        have f2 := hd 2 (by decide) _ rfl
        have e2 : σ 2 = _ := f2.1 trivial
        exact OpOK.sub (r := [(22, _), (5, _), (6, _)]) ⟨congrArg some e2, rfl, rfl, trivial⟩ (by
          exact OpOK.eq (r_assign rfl))
        ), (fun _ _ _ _ _ _ h => h), (FreeR.no _), ?_⟩
    refine ⟨_, false, (fun σ ι w1 hg hd hon => by
        exact OpOK.sub (r := [(5, _), (6, _)]) ⟨rfl, rfl, trivial⟩ (by
          exact OpOK.eq (r_assign rfl))
        ), (fun _ _ _ _ _ _ h => h), (FreeR.no _), ?_⟩
    intro σ ι a14 w11 hgw11 H22 hd hap
    skip
    have hN0 := hN
    have hN := hN.ofGr ((Gr.refl _).drew.trans hgw11)
    replace hB6 := hB6.gr ((Gr.refl _).drew.trans hgw11)
    replace hB5 := hB5.gr ((Gr.refl _).drew.trans hgw11)
    replace hDb := hDb.gr ((Gr.refl _).drew.trans hgw11)
    replace hO := hO.gr ((Gr.refl _).drew.trans hgw11)
    have e3 : σ 3 = _ := (hd 3 (by decide) _ rfl).1 trivial
    have e4 : σ 4 = _ := (hd 4 (by decide) _ rfl).1 trivial
    have e5 : σ 5 = _ := (hd 5 (by decide) _ rfl).1 trivial
    replace H22 := H22.sub (r := [(2, _), (3, _), (4, _), (5, _), (6, _)]) ⟨congrArg some e3, congrArg some e4, congrArg some e5, rfl, rfl, trivial⟩
    clear hd
    clear hap
    refine wl_end ?_
    refine th_n ?_
    refine wpIn_ret ?_
    refine th_r ?_
    refine finM H22 hDb.at_ (res3 rfl H22 rfl rfl rfl) ?_
    exact readPost hN hDb (by omega) (by omega) hO ⟨A3, c3, rfl, hcc3, hE3⟩ (by rw [if_pos (by omega)])
  ·
    try simp only [decide_eq_true_eq, decide_eq_false_iff_not, Bool.or_eq_true, Bool.and_eq_true, Bool.or_eq_false_iff, Bool.and_eq_false_iff, Bool.not_eq_true', Bool.not_eq_false', Int.not_lt, Int.not_le, ne_eq, Decidable.not_not] at hc19
    refine wpIn_skip ?_
    refine th_n ?_
    refine wpIn_seq ?_
    refine w_reg ?_
    refine wl1 H21 (r_load sc23 rfl (hB6.cell rfl)) rfl rfl rfl rfl fun a14 H23 => ?_
    clear H21 a13
    refine wl1 H23 (r_assign rfl) rfl rfl rfl rfl fun a15 H24 => ?_
    clear H23 a14
    refine wl1 H24 (r_assign rfl) rfl rfl rfl rfl fun a16 H25 => ?_
    clear H24 a15
    refine wl1 H25 (r_assign rfl) rfl rfl rfl rfl fun a17 H26 => ?_
    clear H25 a16
    refine wl_end ?_
    refine th_n ?_
    refine wpIn_ret ?_
    refine finM H26 hDb.at_ (res3 rfl H26 rfl rfl rfl) ?_
    exact readPost hN hDb (by omega) (by omega) hO ⟨none, 0, by rw [show l.length - (jall l 0).off = 0 by omega], by omega, by rw [List.drop_eq_nil_of_le (by omega)]; exact Els.nil _ _ _⟩ (by rw [if_neg (by omega)])
end Go.Proofs.Yteinlgobadlgnaa
