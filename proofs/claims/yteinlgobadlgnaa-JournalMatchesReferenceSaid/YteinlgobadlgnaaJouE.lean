/- All records of a journal. -/
import Derived.Test.YteinlgobadlgnaaJouD
set_option linter.unusedVariables false
set_option linter.unusedSimpArgs false
namespace Go.Proofs.Yteinlgobadlgnaa
open Go.RowKit


open Classical in
theorem jnext' {A : Option Addr} {c bc : Nat} {l : List Int} {key : Int} {I : Im} {w : World} (hS : Sat I w) (hbc : Box I w bc [.slice A l.length c, .int .u64 key] 62) (hA : Els (kInt .u8) I A l) (hlc : l.length ≤ c) (hmax : l.length ≤ 16777216) :
    Ret Try.prog 38 [.pointer (some ⟨bc, 0, none⟩)] w (fun v w' => ∃ V J, v = .tuple #[V, .bool (decide (Jok l key))] ∧ NewS (fun k => k = bc) I w J w' ∧
      (Jok l key → ∃ b, V = .slice (some ⟨b, 0, none⟩) (jn l) (jn l) ∧ Els (kInt .i64) J (some ⟨b, 0, none⟩) (recAt l (jn l)) ∧ Box J w' bc [restV A l c (24 + 8 * jn l), .int .u64 (wordAt l (16 + 8 * jn l))] 62) ∧
      (¬ Jok l key → Box J w' bc [.slice A l.length c, .int .u64 key] 62)) := by
  refine (jnext hS hbc hA hlc hmax).mono ?_
  rintro v w' (⟨h1, rfl, h3⟩ | ⟨h1, J, b, rfl, h3, h4, h5⟩)
  · exact ⟨.slice none 0 0, I, by rw [decide_eq_false h1], .ofNew ((New.refl hS).ofGr h3), fun h => absurd h h1, fun _ => hbc.gr h3⟩
  · exact ⟨_, J, by rw [decide_eq_true h1], h4, fun _ => ⟨b, rfl, h3, h5⟩, fun h => absurd h1 h⟩
/-- What is read of a journal: the records, how many bytes they take, the last seal. -/
structure JR where
  recs : List (List Int)
  off : Nat
  key : Int
open Classical in
noncomputable def jgo : Nat → List Int → Int → JR
  | 0, _, key => ⟨[], 0, key⟩
  | f + 1, l, key => if Jok l key then ⟨recAt l (jn l) :: (jgo f (l.drop (24 + 8 * jn l)) (wordAt l (16 + 8 * jn l))).recs, 24 + 8 * jn l + (jgo f (l.drop (24 + 8 * jn l)) (wordAt l (16 + 8 * jn l))).off, (jgo f (l.drop (24 + 8 * jn l)) (wordAt l (16 + 8 * jn l))).key⟩ else ⟨[], 0, key⟩
noncomputable def jall (l : List Int) (key : Int) : JR := jgo l.length l key
theorem jgo_fuel : ∀ (f g : Nat) (l : List Int) (key : Int), l.length ≤ f → l.length ≤ g → jgo f l key = jgo g l key
  | 0, 0, _, _, _, _ => rfl
  | 0, g + 1, l, key, hf, _ => by
    have : ¬ Jok l key := fun h => by have := h.h24; omega
    simp [jgo, this]
  | f + 1, 0, l, key, _, hg => by
    have : ¬ Jok l key := fun h => by have := h.h24; omega
    simp [jgo, this]
  | f + 1, g + 1, l, key, hf, hg => by
    by_cases h : Jok l key
    · have hl := h.len
      simp only [jgo, if_pos h]
      rw [jgo_fuel f g (l.drop (24 + 8 * jn l)) _ (by simp; omega) (by simp; omega)]
    · simp [jgo, h]
theorem jall_yes {l : List Int} {key : Int} (h : Jok l key) : jall l key = ⟨recAt l (jn l) :: (jall (l.drop (24 + 8 * jn l)) (wordAt l (16 + 8 * jn l))).recs, 24 + 8 * jn l + (jall (l.drop (24 + 8 * jn l)) (wordAt l (16 + 8 * jn l))).off, (jall (l.drop (24 + 8 * jn l)) (wordAt l (16 + 8 * jn l))).key⟩ := by
  have h24 := h.h24
  have hl := h.len
  unfold jall
  obtain ⟨f, hf⟩ : ∃ f, l.length = f + 1 := ⟨l.length - 1, by omega⟩
  have e := jgo_fuel f (l.drop (24 + 8 * jn l)).length (l.drop (24 + 8 * jn l)) (wordAt l (16 + 8 * jn l)) (by simp; omega) (Nat.le_refl _)
  rw [hf]
  simp only [jgo, if_pos h, e]
theorem jall_no {l : List Int} {key : Int} (h : ¬ Jok l key) : jall l key = ⟨[], 0, key⟩ := by
  unfold jall
  cases l.length <;> simp [jgo, h]
theorem jall_off {l : List Int} {key : Int} : 24 * (jall l key).recs.length ≤ (jall l key).off ∧ (jall l key).off ≤ l.length := by
  have : ∀ (f : Nat) (l : List Int) (key : Int), 24 * (jgo f l key).recs.length ≤ (jgo f l key).off ∧ (jgo f l key).off ≤ l.length := by
    intro f
    induction f with
    | zero => intro l key; simp [jgo]
    | succ f ih =>
      intro l key
      by_cases h : Jok l key
      · have hl := h.len
        have := ih (l.drop (24 + 8 * jn l)) (wordAt l (16 + 8 * jn l))
        simp only [List.length_drop] at this
        simp only [jgo, if_pos h, List.length_cons]
        omega
      · simp [jgo, h]
  exact this _ _ _
/-- The reader's state. -/
structure RS where
  rs : List (List Int)
  off : Nat
  A : Option Addr
  c : Nat
  key : Int
  J : Im

set_option maxRecDepth 100000 in
set_option maxHeartbeats 400000 in
theorem jrecords {A : Option Addr} {c bc L : Nat} {l : List Int} {key : Int} {Inv : List (List Int) → Im → World → Prop} {I : Im} {w : World} (hS : Sat I w) (hbc : Box I w bc [.slice A l.length c, .int .u64 key] 62) (hA : Els (kInt .u8) I A l) (hlc : l.length ≤ c) (hmax : l.length ≤ 16777216)
    (hstep : ∀ rs J W J' W', Inv rs J W → NewS (fun k => k = bc) J W J' W' → Inv rs J' W')
    (hround : ∀ rs r J W b cs, Inv rs J W → Sat J W → Box J W bc cs 62 → Els (kInt .i64) J (some ⟨b, 0, none⟩) r → r.length ≤ 256 → rs.length ≤ 16777216 → YRet Try.prog L [.slice (some ⟨b, 0, none⟩) r.length r.length] W (fun v W' => v = .bool true ∧ ∃ J', Im.le J J' ∧ Sat J' W' ∧ Box J' W' bc cs 62 ∧ Inv (rs ++ [r]) J' W'))
    (h0 : Inv [] I w) :
    Ret Try.prog 30 [.pointer (some ⟨bc, 0, none⟩), yv L] w (fun v w' => ∃ J, Im.le I J ∧ Sat J w' ∧ Inv (jall l key).recs J w' ∧ ∃ A' c', Box J w' bc [.slice A' (l.length - (jall l key).off) c', .int .u64 (jall l key).key] 62 ∧ Els (kInt .u8) J A' (l.drop (jall l key).off) ∧ l.length - (jall l key).off ≤ c') := by
  refine ret_of (N := 19) Try.func30 rfl rfl rfl fun a0 H0 => ?_
  have hN := New.refl hS
  simp only [argsEnv, Nat.zero_add, Nat.reduceAdd] at H0
  refine wpIn_block ?_
  refine w_loop (ι := RS) (fun x => []) (fun x W => (Sat x.J W ∧ Im.le I x.J ∧ Inv x.rs x.J W ∧ Box x.J W bc [.slice x.A (l.drop x.off).length x.c, .int .u64 x.key] 62 ∧ Els (kInt .u8) x.J x.A (l.drop x.off) ∧ (l.drop x.off).length ≤ x.c ∧ x.off ≤ l.length ∧ 24 * x.rs.length ≤ x.off ∧ (jall l key = ⟨x.rs ++ (jall (l.drop x.off) x.key).recs, x.off + (jall (l.drop x.off) x.key).off, (jall (l.drop x.off) x.key).key⟩))) (fun x => l.length - x.off) (l0 := [(0, _), (1, _)]) ⟨[], 0, A, c, key, I⟩ H0 ⟨rfl, rfl, trivial⟩ ⟨hS, Im.le.refl _, h0, hbc, hA, hlc, Nat.zero_le _, Nat.le_refl _, by simp⟩ ?_
  rintro ⟨rs, off, A1, c1, key1, J1⟩ a1 w1 H1 ⟨hS1, hle1, hI1, hb1, hE1, hc1, ho1, hr1, hj1⟩
  clear H0 a0
  simp only [List.cons_append, List.nil_append] at H1
  simp only at hS1 hle1 hI1 hb1 hE1 hc1 ho1 hr1 hj1 H1
  have hN := New.refl hS1
  refine wpIn_block ?_
  refine wpIn_seq ?_
  refine w_reg ?_
  refine wl1 H1 (r_move rfl) rfl rfl rfl rfl fun a2 H2 => ?_
  clear H1 a1
  refine wlc  H2 rfl rfl hb38 rfl (jnext' hS1 hb1 hE1 hc1 (by simp only [List.length_drop]; omega)) fun v w2 hR a3 H3 => ?_
  clear H2 a2
  obtain ⟨V, J2, rfl, hNS, hyes, hno⟩ := hR
  have hI2 := hstep _ _ _ _ _ hI1 hNS
  refine wl1 H3 (r_move rfl) rfl rfl rfl rfl fun a4 H4 => ?_
  clear H3 a3
  refine wl1 H4 (r_extract rfl rfl) rfl rfl rfl rfl fun a5 H5 => ?_
  clear H4 a4
  refine wl1 H5 (r_extract rfl rfl) rfl rfl rfl rfl fun a6 H6 => ?_
  clear H5 a5
  refine wl1 H6 (r_assign rfl) rfl rfl rfl rfl fun a7 H7 => ?_
  clear H6 a6
  refine wl1 H7 (r_assign rfl) rfl rfl rfl rfl fun a8 H8 => ?_
  clear H7 a7
  refine wl_end ?_
  refine th_n ?_
  refine wpIn_seq ?_
  refine w_reg ?_
  refine wl1 H8 (r_move rfl) rfl rfl rfl rfl fun a9 H9 => ?_
  clear H8 a8
  refine wl1 H9 (r_not rfl) rfl rfl rfl rfl fun a10 H10 => ?_
  clear H9 a9
  refine wl1 H10 (r_move rfl) rfl rfl rfl rfl fun a11 H11 => ?_
  clear H10 a10
  refine wl_split (t := 13) H11 rfl (fun hg1_2 H12 => ?_) (fun hg1_2 H12 => ?_)
  ·
    clear H11
    try simp only [decide_eq_true_eq, decide_eq_false_iff_not, Bool.or_eq_true, Bool.and_eq_true, Bool.or_eq_false_iff, Bool.and_eq_false_iff, Bool.not_eq_true', Bool.not_eq_false', Int.not_lt, Int.not_le, ne_eq, Decidable.not_not] at hg1_2
    refine wl_off (d := 13) H12 rfl rfl rfl rfl rfl rfl fun a12 H13 => ?_
    clear H12 a11
    refine wl_off (d := 13) H13 rfl rfl rfl rfl rfl rfl fun a13 H14 => ?_
    clear H13 a12
    refine wl_off (d := 13) H14 rfl rfl rfl rfl rfl rfl fun a14 H15 => ?_
    clear H14 a13
    refine wl_off (d := 13) H15 rfl rfl rfl rfl rfl rfl fun a15 H16 => ?_
    clear H15 a14
    refine wl1 H16 (r_pick_t rfl rfl) rfl rfl rfl rfl fun a16 H17 => ?_
    clear H16 a15
    refine wl_end ?_
    refine th_n ?_
    refine w_tt H17 rfl rfl ?_
    refine wpIn_ret ?_
    refine bl_r ?_
    refine th_r ?_
    refine bl_r ?_
    refine fin_r H17 (res0 rfl) ?_
    exact ⟨J2, hle1.trans hNS.le, hNS.sat, by rw [hj1, jall_no hg1_2]; simpa using hI2, A1, c1, by rw [hj1, jall_no hg1_2]; simpa using hno hg1_2, by rw [hj1, jall_no hg1_2]; simpa using hE1.up hNS.le, by rw [hj1, jall_no hg1_2]; simpa using hc1⟩
  ·
    clear H11
    try simp only [decide_eq_true_eq, decide_eq_false_iff_not, Bool.or_eq_true, Bool.and_eq_true, Bool.or_eq_false_iff, Bool.and_eq_false_iff, Bool.not_eq_true', Bool.not_eq_false', Int.not_lt, Int.not_le, ne_eq, Decidable.not_not] at hg1_2
    have hgen : ∃ l1, l1 = l.drop off := ⟨_, rfl⟩
    obtain ⟨l1, hl1⟩ := hgen
    rw [← hl1] at hg1_2 hyes hE1 hc1 hj1 hb1 hno
    obtain ⟨b2, rfl, hE2, hb2⟩ := hyes hg1_2
    have hIB1 : isB l1 := hE1.inK
    have hlen1 := hg1_2.len
    have hll : l1.length = l.length - off := by rw [hl1]; simp
    have hdd : l.drop (off + (24 + 8 * jn l1)) = l1.drop (24 + 8 * jn l1) := by rw [hl1, List.drop_drop]
    rw [show (Value.slice (some ⟨b2, 0, none⟩) (jn l1) (jn l1)) = .slice (some ⟨b2, 0, none⟩) (recAt l1 (jn l1)).length (recAt l1 (jn l1)).length from by rw [recAt_length]] at H12
    refine wl_on (d := 13) H12 rfl rfl rfl ?_
    refine wl1 H12 (r_move rfl) rfl rfl rfl rfl fun a12 H18 => ?_
    clear H12 a11
    refine wl_on (d := 13) H18 rfl rfl rfl ?_
    refine wl1 H18 (r_move rfl) rfl rfl rfl rfl fun a13 H19 => ?_
    clear H18 a12
    refine wl_on (d := 13) H19 rfl rfl rfl ?_
    refine wly H19 rfl rfl rfl (hround rs (recAt l1 (jn l1)) J2 w2 b2 _ hI2 hNS.sat hb2 hE2 (by rw [recAt_length]; have := jn_eq hIB1; have := hg1_2.n256; omega) (by omega)) fun v w3 hR a14 H20 => ?_
    clear H19 a13
    obtain ⟨rfl, J3, hle3, hS3, hb3, hI3⟩ := hR
    refine wl_on (d := 13) H20 rfl rfl rfl ?_
    refine wl1 H20 (r_not rfl) rfl rfl rfl rfl fun a15 H21 => ?_
    clear H20 a14
    refine wl1 H21 (r_pick_f rfl rfl) rfl rfl rfl rfl fun a16 H22 => ?_
    clear H21 a15
    refine wl_end ?_
    refine th_n ?_
    first | refine w_iff H22 rfl rfl ?_ | refine w_ff H22 rfl rfl ?_
    refine wpIn_skip ?_
    refine bl_n ?_
    exact th_n ⟨⟨rs ++ [recAt l1 (jn l1)], off + (24 + 8 * jn l1), offS A1 (24 + 8 * jn l1) 1 c1, c1 - (24 + 8 * jn l1), wordAt l1 (16 + 8 * jn l1), J3⟩, (by show l.length - (off + (24 + 8 * jn l1)) < l.length - off; omega), H22.sub ⟨rfl, rfl, trivial⟩, hS3, hle1.trans (hNS.le.trans hle3), hI3, by rw [hdd]; simp only [List.length_drop]; exact hb3, by rw [hdd]; exact (hE1.up (hNS.le.trans hle3)).off hc1, by rw [hdd]; simp only [List.length_drop]; omega, by show off + (24 + 8 * jn l1) ≤ l.length; omega, by show 24 * (rs ++ [recAt l1 (jn l1)]).length ≤ _; simp; omega, by rw [hj1, jall_yes hg1_2]; simp only [hdd, List.append_assoc, List.singleton_append, Nat.add_assoc]⟩
end Go.Proofs.Yteinlgobadlgnaa
