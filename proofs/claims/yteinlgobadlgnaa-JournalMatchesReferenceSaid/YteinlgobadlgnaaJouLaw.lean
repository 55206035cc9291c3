/- Journals as bytes: what is written is read, a prefix is read as far as it goes, a changed byte ends the reading. No program. -/
import Derived.Test.YteinlgobadlgnaaLawA
import Derived.Test.YteinlgobadlgnaaDigInj
set_option linter.unusedVariables false
set_option linter.unusedSimpArgs false
namespace Go.Proofs.Yteinlgobadlgnaa
open Go.RowKit
/-! ### words -/
theorem wordAt_left {a b : List Int} {i : Nat} (h : i + 8 ≤ a.length) : wordAt (a ++ b) i = wordAt a i := by
  unfold wordAt
  rw [List.drop_append_of_le_length (by omega), List.take_append_of_le_length (by simp; omega)]
theorem wordAt_right (a b : List Int) (i : Nat) : wordAt (a ++ b) (a.length + i) = wordAt b i := by
  unfold wordAt; rw [List.drop_append, List.drop_eq_nil_of_le (by omega), List.nil_append, Nat.add_sub_cancel_left]
theorem wordAt_take {l : List Int} {j i : Nat} (h : i + 8 ≤ j) : wordAt (l.take j) i = wordAt l i := by
  unfold wordAt
  rw [List.drop_take, List.take_take, Nat.min_eq_left (by omega)]
theorem wordAt_wbytes {n : Int} (h : U n) (r : List Int) : wordAt (wbytes n ++ r) 0 = n := by
  unfold wordAt
  rw [List.drop_zero, List.take_append_of_le_length (by rw [wbytes_length]; omega), List.take_of_length_le (by rw [wbytes_length]; omega), wbytes_sum n h.1 h.2]
theorem wordAt_wsB : ∀ (ws : List Int) (r : List Int) (j : Nat) (hj : j < ws.length), U ws[j] → wordAt (wsB ws ++ r) (8 * j) = ws[j]
  | x :: ws, r, 0, hj, h => by
    rw [show wsB (x :: ws) = wbytes x ++ wsB ws from rfl, List.append_assoc]; exact wordAt_wbytes h _
  | x :: ws, r, j + 1, hj, h => by
    rw [show wsB (x :: ws) = wbytes x ++ wsB ws from rfl, List.append_assoc, show 8 * (j + 1) = (wbytes x).length + 8 * j by rw [wbytes_length]; omega, wordAt_right]
    simpa using wordAt_wsB ws r j (by simpa using hj) (by simpa using h)
theorem wsB_isB (ws : List Int) : isB (wsB ws) := by
  intro b hb
  simp only [wsB, List.mem_flatMap] at hb
  obtain ⟨x, _, hx⟩ := hb
  exact wbytes_isB x b hx
theorem leSum_inj : ∀ {a b : List Int}, isB a → isB b → a.length = b.length → leSum a = leSum b → a = b
  | [], [], _, _, _, _ => rfl
  | x :: a, y :: b, ha, hb, hl, h => by
    have h1 := ha x (by simp)
    have h2 := hb y (by simp)
    simp only [leSum] at h
    have e : x = y := by omega
    subst e
    have := leSum_inj (a := a) (b := b) (fun z hz => ha z (by simp [hz])) (fun z hz => hb z (by simp [hz])) (by simpa using hl) (by omega)
    rw [this]
theorem wbytes_wordAt {l : List Int} (hB : isB l) {a : Nat} (h : a + 8 ≤ l.length) : wbytes (wordAt l a) = (l.drop a).take 8 := by
  have hr := wordAt_range hB a
  refine leSum_inj (wbytes_isB _) (isB_take (isB_drop hB a) 8) (by simp [wbytes_length]; omega) ?_
  rw [wbytes_sum _ hr.1 hr.2]; rfl
theorem take_words {l : List Int} (hB : isB l) : ∀ (m : Nat), 8 * m ≤ l.length → l.take (8 * m) = wsB ((List.range m).map fun j => wordAt l (8 * j))
  | 0, _ => by simp [wsB]
  | m + 1, h => by
    rw [List.range_succ, List.map_append, wsB_append, ← take_words hB m (by omega)]
    simp only [List.map_cons, List.map_nil, wsB, List.flatMap_cons, List.flatMap_nil, List.append_nil]
    rw [wbytes_wordAt hB (by omega), show 8 * (m + 1) = 8 * m + 8 by omega, List.take_add]
/-! ### numbers -/
theorem u64_of_U {n : Int} (h : U n) : u64 n = n := by
  unfold u64; rw [wrapu_eq]; exact Int.emod_eq_of_lt h.1 h.2
theorem i64_u64 {x : Int} (h : InK .i64 x) : IntKind.i64.wrap (u64 x) = x := by
  simp only [InK] at h
  unfold u64
  rw [wrapu_eq]
  simp [IntKind.wrap, IntKind.bits, IntKind.signed]
  omega
theorem u64_i64 {w : Int} (h : U w) : u64 (IntKind.i64.wrap w) = w := by
  have := h.1; have := h.2
  unfold u64
  rw [wrapu_eq]
  simp [IntKind.wrap, IntKind.bits, IntKind.signed]
  omega
theorem dtag_U (key : Int) (l : List Int) : U (dtag key l) := dstep_U _ _
theorem len_U {n : Nat} (h : n ≤ 9223372036854775807) : U (n : Int) := ⟨by omega, by omega⟩
/-! ### one record -/
noncomputable def recW (key : Int) (rec : List Int) : List Int := headW key rec ++ rec.map IntKind.u64.wrap ++ [dtag key rec]
theorem encB_recW (key : Int) (rec : List Int) : encB key rec = wsB (recW key rec) := by simp [encB, recW, wsB_append]
theorem recW_length (key : Int) (rec : List Int) : (recW key rec).length = rec.length + 3 := by simp [recW, headW]
theorem recW_0 (key : Int) (rec : List Int) : (recW key rec)[0]'(by rw [recW_length]; omega) = rec.length := rfl
theorem recW_1 (key : Int) (rec : List Int) : (recW key rec)[1]'(by rw [recW_length]; omega) = dtag key [(rec.length : Int)] := rfl
theorem recW_el (key : Int) (rec : List Int) {i : Nat} (h : i < rec.length) : (recW key rec)[2 + i]'(by rw [recW_length]; omega) = u64 rec[i] := by
  simp only [recW, headW]
  rw [List.getElem_append_left (by simp; omega), List.getElem_append_right (by simp)]
  simp [u64]
theorem recW_last (key : Int) (rec : List Int) : (recW key rec)[2 + rec.length]'(by rw [recW_length]; omega) = dtag key rec := by
  simp only [recW, headW]
  rw [List.getElem_append_right (by simp; omega)]
  simp
def goodR (r : List Int) : Prop := r.length ≤ 256 ∧ ∀ x ∈ r, InK .i64 x
theorem enc_n {key : Int} {rec m : List Int} (h : goodR rec) : wordAt (encB key rec ++ m) 0 = rec.length := by
  rw [encB_recW]
  have := wordAt_wsB (recW key rec) m 0 (by rw [recW_length]; omega) (by rw [recW_0]; exact len_U (by have := h.1; omega))
  rwa [recW_0] at this
theorem enc_jn {key : Int} {rec m : List Int} (h : goodR rec) : jn (encB key rec ++ m) = rec.length := by unfold jn; rw [enc_n h]; rfl
theorem enc_head {key : Int} {rec m : List Int} : wordAt (encB key rec ++ m) 8 = dtag key [(rec.length : Int)] := by
  rw [encB_recW]
  have := wordAt_wsB (recW key rec) m 1 (by rw [recW_length]; omega) (by rw [recW_1]; exact dtag_U _ _)
  rwa [recW_1] at this
theorem enc_el {key : Int} {rec m : List Int} {i : Nat} (hi : i < rec.length) : wordAt (encB key rec ++ m) (16 + 8 * i) = u64 rec[i] := by
  rw [encB_recW]
  have := wordAt_wsB (recW key rec) m (2 + i) (by rw [recW_length]; omega) (by rw [recW_el key rec hi]; exact u64_range _)
  rw [recW_el key rec hi, show 8 * (2 + i) = 16 + 8 * i by omega] at this
  exact this
theorem enc_last {key : Int} {rec m : List Int} : wordAt (encB key rec ++ m) (16 + 8 * rec.length) = dtag key rec := by
  rw [encB_recW]
  have := wordAt_wsB (recW key rec) m (2 + rec.length) (by rw [recW_length]; omega) (by rw [recW_last]; exact dtag_U _ _)
  rw [recW_last, show 8 * (2 + rec.length) = 16 + 8 * rec.length by omega] at this
  exact this
theorem enc_rec {key : Int} {rec m : List Int} (h : goodR rec) : recAt (encB key rec ++ m) rec.length = rec := by
  apply List.ext_getElem (by rw [recAt_length])
  intro i h1 h2
  simp only [recAt, List.getElem_map, List.getElem_range]
  rw [enc_el h2, i64_u64 (h.2 _ (List.getElem_mem _))]
theorem enc_ok {key : Int} {rec m : List Int} (h : goodR rec) : Jok (encB key rec ++ m) key := by
  have h1 := h.1
  refine ⟨by simp [encB_length]; omega, by rw [enc_n h]; omega, by rw [enc_jn h]; simp [encB_length], by rw [enc_head, enc_n h], by rw [enc_jn h, enc_last, enc_rec h]⟩
theorem jall_enc {key : Int} {rec m : List Int} (h : goodR rec) : jall (encB key rec ++ m) key = ⟨rec :: (jall m (dtag key rec)).recs, 24 + 8 * rec.length + (jall m (dtag key rec)).off, (jall m (dtag key rec)).key⟩ := by
  rw [jall_yes (enc_ok h), enc_jn h, enc_rec h, enc_last, ← encB_length (key := key), List.drop_left]
theorem jok_nil {key : Int} : ¬ Jok [] key := fun h => by have := h.h24; simp at this
theorem jall_nil {key : Int} : jall [] key = ⟨[], 0, key⟩ := jall_no jok_nil
/-! ### many records -/
noncomputable def chainB : Int → List (List Int) → List Int
  | _, [] => []
  | key, r :: rs => encB key r ++ chainB (dtag key r) rs
noncomputable def lastK : Int → List (List Int) → Int
  | key, [] => key
  | key, r :: rs => lastK (dtag key r) rs
def lenR : List (List Int) → Nat
  | [] => 0
  | r :: rs => 24 + 8 * r.length + lenR rs
theorem chainB_length : ∀ (key : Int) (rs : List (List Int)), (chainB key rs).length = lenR rs
  | _, [] => rfl
  | key, r :: rs => by simp only [chainB, List.length_append, encB_length, chainB_length _ rs, lenR]
theorem chainB_append : ∀ (key : Int) (rs ts : List (List Int)), chainB key (rs ++ ts) = chainB key rs ++ chainB (lastK key rs) ts
  | _, [], _ => rfl
  | key, r :: rs, ts => by simp only [List.cons_append, chainB, lastK, chainB_append _ rs ts, List.append_assoc]
theorem lenR_append : ∀ (rs ts : List (List Int)), lenR (rs ++ ts) = lenR rs + lenR ts
  | [], _ => by simp [lenR]
  | r :: rs, ts => by simp only [List.cons_append, lenR, lenR_append rs ts]; omega
theorem lenR_take (rs : List (List Int)) (k : Nat) : lenR (rs.take k) ≤ lenR rs := by
  have := lenR_append (rs.take k) (rs.drop k)
  rw [List.take_append_drop] at this
  omega
theorem lenR_succ {rs : List (List Int)} {k : Nat} (h : k < rs.length) : lenR (rs.take (k + 1)) = lenR (rs.take k) + (24 + 8 * rs[k].length) := by
  rw [List.take_succ_eq_append_getElem h, lenR_append]; simp [lenR]
theorem lenR_le {rs : List (List Int)} {c : Nat} (h : ∀ r ∈ rs, r.length ≤ c) : lenR rs ≤ rs.length * (24 + 8 * c) := by
  induction rs with
  | nil => simp [lenR]
  | cons r rs ih =>
    have h1 := h r (by simp)
    have h2 := ih (fun x hx => h x (by simp [hx]))
    simp only [lenR, List.length_cons, Nat.add_mul, Nat.one_mul] at h2 ⊢
    omega
def good (rs : List (List Int)) : Prop := ∀ r ∈ rs, goodR r
theorem good.take {rs : List (List Int)} (h : good rs) (k : Nat) : good (rs.take k) := fun r hr => h r (List.mem_of_mem_take hr)
theorem good.drop {rs : List (List Int)} (h : good rs) (k : Nat) : good (rs.drop k) := fun r hr => h r (List.mem_of_mem_drop hr)
theorem jall_chain : ∀ (key : Int) (rs : List (List Int)) (m : List Int), good rs → jall (chainB key rs ++ m) key = ⟨rs ++ (jall m (lastK key rs)).recs, lenR rs + (jall m (lastK key rs)).off, (jall m (lastK key rs)).key⟩
  | key, [], m, _ => by simp [chainB, lastK, lenR]
  | key, r :: rs, m, h => by
    simp only [chainB, List.append_assoc]
    rw [jall_enc (h r (by simp)), jall_chain _ rs m (fun x hx => h x (by simp [hx]))]
    simp only [lastK, List.cons_append, lenR, Nat.add_assoc]
theorem jall_chain' {key : Int} {rs : List (List Int)} (h : good rs) : jall (chainB key rs) key = ⟨rs, lenR rs, lastK key rs⟩ := by
  have := jall_chain key rs [] h
  rw [List.append_nil, jall_nil] at this
  simpa using this
/-! ### what is put -/
theorem putErr_chain {rs : List (List Int)} {r : List Int} (h : good rs) : putErr (chainB 0 rs) r = if 256 < r.length then 1 else if 65536 < lenR rs + 24 + 8 * r.length then 2 else 0 := by
  unfold putErr
  rw [jall_chain' h, chainB_length]
  simp
theorem putB_chain {rs : List (List Int)} {r : List Int} (h : good rs) (hr : r.length ≤ 256) (hl : lenR rs + 24 + 8 * r.length ≤ 65536) : putB (chainB 0 rs) r = chainB 0 (rs ++ [r]) := by
  unfold putB
  rw [if_pos (by rw [putErr_chain h, if_neg (by omega), if_neg (by omega)]), jall_chain' h, chainB_append]
  simp [chainB]
theorem foldl_chain : ∀ (ts rs : List (List Int)), good (rs ++ ts) → lenR (rs ++ ts) ≤ 65536 → ts.foldl putB (chainB 0 rs) = chainB 0 (rs ++ ts)
  | [], rs, _, _ => by simp
  | t :: ts, rs, h, hl => by
    have e : rs ++ t :: ts = (rs ++ [t]) ++ ts := by simp
    have h1 : goodR t := h t (by simp)
    have h2 : lenR (rs ++ [t]) ≤ 65536 := by rw [e, lenR_append] at hl; omega
    rw [lenR_append] at h2
    simp only [lenR] at h2
    rw [List.foldl_cons, putB_chain (fun r hr => h r (by simp [hr])) h1.1 (by omega), e, foldl_chain ts (rs ++ [t]) (by rw [← e]; exact h) (by rw [← e]; exact hl)]
theorem jfold_chain {rs : List (List Int)} (h : good rs) (hl : lenR rs ≤ 65536) : jfold rs = chainB 0 rs := by
  have := foldl_chain rs [] (by simpa using h) (by simpa using hl)
  simpa [chainB, jfold] using this
theorem small_len {rs : List (List Int)} (h : smallB rs = true) : rs.length ≤ 12 ∧ ∀ r ∈ rs, r.length ≤ 12 := by
  simp only [smallB, Bool.and_eq_true, decide_eq_true_eq, List.all_eq_true] at h
  exact h
theorem small_lenR {rs : List (List Int)} (h : smallB rs = true) : lenR rs ≤ 1440 := by
  have h1 := small_len h
  have h2 := lenR_le h1.2
  have h3 := Nat.mul_le_mul_right (24 + 8 * 12) h1.1
  omega
theorem small_good {rs : List (List Int)} (h : smallB rs = true) (hk : ∀ r ∈ rs, ∀ x ∈ r, InK .i64 x) : good rs := fun r hr => ⟨by have := (small_len h).2 r hr; omega, hk r hr⟩
theorem small_jfold {rs : List (List Int)} (h : smallB rs = true) (hk : ∀ r ∈ rs, ∀ x ∈ r, InK .i64 x) : jfold rs = chainB 0 rs := jfold_chain (small_good h hk) (by have := small_lenR h; omega)
/-! ### a prefix -/
theorem jok_part {key : Int} {r m : List Int} {j : Nat} (h : goodR r) (hj : j < 24 + 8 * r.length) : ¬ Jok ((encB key r ++ m).take j) key := fun hk => by
  have h24 := hk.h24
  have hlen := hk.len
  have hl : ((encB key r ++ m).take j).length ≤ j := by simp; omega
  have e : jn ((encB key r ++ m).take j) = r.length := by
    have := enc_jn (key := key) (m := m) h
    unfold jn at this ⊢
    rw [wordAt_take (by omega)]; exact this
  rw [e] at hlen
  omega
theorem jall_part {key : Int} {rs : List (List Int)} {k n : Nat} (h : good rs) (hk : k ≤ rs.length) (h1 : lenR (rs.take k) ≤ n) (h2 : k < rs.length → n < lenR (rs.take (k + 1))) :
    jall ((chainB key rs).take n) key = ⟨rs.take k, lenR (rs.take k), lastK key (rs.take k)⟩ := by
  have e : chainB key rs = chainB key (rs.take k) ++ chainB (lastK key (rs.take k)) (rs.drop k) := by rw [← chainB_append, List.take_append_drop]
  have e2 : (chainB key rs).take n = chainB key (rs.take k) ++ (chainB (lastK key (rs.take k)) (rs.drop k)).take (n - lenR (rs.take k)) := by
    rw [e, List.take_append, chainB_length, List.take_of_length_le (by rw [chainB_length]; omega)]
  rw [e2, jall_chain _ _ _ (h.take k)]
  have hno : ¬ Jok ((chainB (lastK key (rs.take k)) (rs.drop k)).take (n - lenR (rs.take k))) (lastK key (rs.take k)) := by
    rcases Nat.lt_or_ge k rs.length with hlt | hge
    · have h3 := h2 hlt
      rw [lenR_succ hlt] at h3
      rw [List.drop_eq_getElem_cons hlt]
      simp only [chainB]
      exact jok_part (h _ (List.getElem_mem _)) (by omega)
    · rw [List.drop_eq_nil_of_le hge]
      simp only [chainB, List.take_nil]
      exact jok_nil
  rw [jall_no hno]
  simp
theorem chain_take {key : Int} {rs : List (List Int)} {k : Nat} : (chainB key rs).take (lenR (rs.take k)) = chainB key (rs.take k) := by
  have e : chainB key rs = chainB key (rs.take k) ++ chainB (lastK key (rs.take k)) (rs.drop k) := by rw [← chainB_append, List.take_append_drop]
  rw [e, ← chainB_length key (rs.take k), List.take_left]
end Go.Proofs.Yteinlgobadlgnaa
