/- Journals as bytes: what is read determines the bytes; a changed byte ends the reading. No program. -/
import Derived.Test.YteinlgobadlgnaaJouLaw
set_option linter.unusedVariables false
set_option linter.unusedSimpArgs false
namespace Go.Proofs.Yteinlgobadlgnaa
open Go.RowKit
theorem goodR_recAt {l : List Int} {key : Int} (h : Jok l key) : goodR (recAt l (jn l)) :=
  ⟨by rw [recAt_length]; have := h.n256; unfold jn; omega, recAt_inK _ _⟩
theorem jok_bytes {l : List Int} {key : Int} (hB : isB l) (h : Jok l key) : l.take (24 + 8 * jn l) = encB key (recAt l (jn l)) := by
  have hn := jn_eq hB
  have hlen := h.len
  rw [encB_recW, show 24 + 8 * jn l = 8 * (jn l + 3) by omega, take_words hB _ (by omega)]
  congr 1
  have hW := recW_length key (recAt l (jn l))
  rw [recAt_length] at hW
  apply List.ext_getElem (by rw [hW]; simp)
  intro i h1 h2
  simp only [List.getElem_map, List.getElem_range]
  have hi : i < jn l + 3 := by rw [hW] at h2; exact h2
  rcases Nat.lt_or_ge i 2 with h3 | h3
  · have h4 : i = 0 ∨ i = 1 := by omega
    rcases h4 with rfl | rfl
    · rw [recW_0, recAt_length]; exact hn
    · rw [recW_1, recAt_length, ← hn]; exact h.head
  · obtain ⟨q, rfl⟩ : ∃ q, i = 2 + q := ⟨i - 2, by omega⟩
    rcases Nat.lt_or_ge q (jn l) with h5 | h5
    · rw [recW_el key (recAt l (jn l)) (i := q) (by rw [recAt_length]; exact h5)]
      simp only [recAt, List.getElem_map, List.getElem_range]
      rw [u64_i64 (wordAt_range hB _)]
      congr 1; omega
    · obtain rfl : q = jn l := by omega
      have h6 := recW_last key (recAt l (jn l))
      simp only [recAt_length] at h6
      rw [h6, ← h.sl]
      congr 1; omega
theorem jall_bytes : ∀ (n : Nat) (l : List Int) (key : Int), l.length ≤ n → isB l → l.take (jall l key).off = chainB key (jall l key).recs ∧ (jall l key).off = lenR (jall l key).recs ∧ good (jall l key).recs ∧ (jall l key).key = lastK key (jall l key).recs := by
  intro n
  induction n with
  | zero =>
    intro l key hl hB
    obtain rfl : l = [] := List.eq_nil_of_length_eq_zero (by omega)
    rw [jall_nil]
    exact ⟨rfl, rfl, fun _ h => by simp at h, rfl⟩
  | succ n ih =>
    intro l key hl hB
    by_cases h : Jok l key
    · have h24 := h.h24
      obtain ⟨i1, i2, i3, i4⟩ := ih (l.drop (24 + 8 * jn l)) (wordAt l (16 + 8 * jn l)) (by simp; omega) (isB_drop hB _)
      rw [jall_yes h]
      refine ⟨?_, ?_, fun r hr => ?_, ?_⟩
      · simp only [chainB]
        rw [List.take_add, i1, jok_bytes hB h, h.sl]
      · simp only [lenR, recAt_length, i2]
      · rcases List.mem_cons.1 hr with rfl | hr
        · exact goodR_recAt h
        · exact i3 r hr
      · simp only [lastK, i4]; rw [h.sl]
    · rw [jall_no h]
      exact ⟨rfl, rfl, fun _ h => by simp at h, rfl⟩
/-! ### a changed byte -/
theorem wordAt_set_ne {l : List Int} {i a : Nat} {b : Int} (h : i < a ∨ a + 8 ≤ i) : wordAt (l.set i b) a = wordAt l a := by
  unfold wordAt
  rw [List.drop_set]
  split
  · rfl
  · rw [List.take_set, List.set_eq_of_length_le (by simp; omega)]
theorem isB_set {l : List Int} (hB : isB l) {i : Nat} {b : Int} (hb : 0 ≤ b ∧ b ≤ 255) : isB (l.set i b) := fun x hx => by
  rcases List.mem_or_eq_of_mem_set hx with h | rfl
  · exact hB x h
  · exact hb
theorem wordAt_set_eq {l : List Int} (hB : isB l) {i a : Nat} {b : Int} (hb : 0 ≤ b ∧ b ≤ 255) (h1 : a ≤ i) (h2 : i < a + 8) (h3 : a + 8 ≤ l.length) (hne : l[i]? ≠ some b) : wordAt (l.set i b) a ≠ wordAt l a := by
  intro e
  have h := leSum_inj (isB_take (isB_drop (isB_set hB hb) a) 8) (isB_take (isB_drop hB a) 8) (by simp) e
  have h4 := congrArg (fun q => q[i - a]?) h
  simp only [List.getElem?_take, List.getElem?_drop] at h4
  rw [if_pos (by omega), if_pos (by omega), show a + (i - a) = i by omega, List.getElem?_set_self (by omega)] at h4
  exact hne h4.symm
theorem dfold_U : ∀ (l : List Int) (h : Int), U h → U (dfold h l)
  | [], h, hU => hU
  | x :: l, h, hU => dfold_U l _ (dstep_U _ _)
theorem dfold_left : ∀ (l : List Int) (g h : Int), U g → U h → dfold g l = dfold h l → g = h
  | [], _, _, _, _, e => e
  | x :: l, g, h, hg, hh, e => dstep_left hg hh (dfold_left l _ _ (dstep_U _ _) (dstep_U _ _) e)
theorem dfold_set : ∀ (l : List Int) (h : Int) (j : Nat) (y : Int) (hj : j < l.length), U h → (∀ x ∈ l, U x) → U y → l[j] ≠ y → dfold h (l.set j y) ≠ dfold h l
  | x :: l, h, 0, y, _, hU, hl, hy, hne => fun e => hne (dstep_right hy (hl x (by simp)) (dfold_left l _ _ (dstep_U _ _) (dstep_U _ _) e)).symm
  | x :: l, h, j + 1, y, hj, hU, hl, hy, hne => dfold_set l _ j y (by simpa using hj) (dstep_U _ _) (fun z hz => hl z (by simp [hz])) hy (by simpa using hne)
theorem dwords_eq {l m : List Int} (hl : l.length = m.length) (e : dwords l = dwords m) : dfold 512970876019 (l.map u64) = dfold 512970876019 (m.map u64) := by
  unfold dwords at e
  rw [hl] at e
  exact dstep_left (dfold_U _ _ ⟨by omega, by omega⟩) (dfold_U _ _ ⟨by omega, by omega⟩) e
theorem dtag_eq {key : Int} {l m : List Int} (hl : l.length = m.length) (e : dtag key l = dtag key m) : dfold 512970876019 (l.map u64) = dfold 512970876019 (m.map u64) :=
  dwords_eq hl (dstep_right (dstep_U _ _) (dstep_U _ _) e)
theorem dtag_one {key a b : Int} (ha : U a) (hb : U b) (e : dtag key [a] = dtag key [b]) : a = b := by
  have := dtag_eq (l := [a]) (m := [b]) rfl e
  simp only [List.map_cons, List.map_nil, u64_of_U ha, u64_of_U hb] at this
  exact dstep_right ha hb this
theorem recAt_u64 {l : List Int} (hB : isB l) (n : Nat) : (recAt l n).map u64 = (List.range n).map fun q => wordAt l (16 + 8 * q) := by
  unfold recAt
  rw [List.map_map]
  apply List.map_congr_left
  intro q _
  exact u64_i64 (wordAt_range hB _)
theorem enc_isB {key : Int} {rec m : List Int} (hm : isB m) : isB (encB key rec ++ m) := fun b hb => by
  rcases List.mem_append.1 hb with h | h
  · rw [encB_recW] at h; exact wsB_isB _ b h
  · exact hm b h
theorem jok_set {key : Int} {rec m : List Int} {i : Nat} {b : Int} (hg : goodR rec) (hm : isB m) (hi : i < 24 + 8 * rec.length) (hb : 0 ≤ b ∧ b ≤ 255) (hne : (encB key rec ++ m)[i]? ≠ some b) : ¬ Jok ((encB key rec ++ m).set i b) key := by
  intro hk
  have hB := enc_isB (key := key) (rec := rec) hm
  have e0 := enc_n (key := key) (m := m) hg
  have e1 := enc_head (key := key) (rec := rec) (m := m)
  have e2 := enc_last (key := key) (rec := rec) (m := m)
  have er := enc_rec (key := key) (m := m) hg
  have hlen : 24 + 8 * rec.length ≤ (encB key rec ++ m).length := by simp [encB_length]
  generalize encB key rec ++ m = l at *
  have hBx := isB_set hB (i := i) hb
  have hU : U (wordAt (l.set i b) 0) := wordAt_range hBx 0
  have hn9 := hg.1
  rcases Nat.lt_or_ge i 8 with h8 | h8
  · have h1 := wordAt_set_eq hB hb (a := 0) (by omega) (by omega) (by omega) hne
    have h2 := hk.head
    rw [wordAt_set_ne (by omega), e1] at h2
    exact h1 (by rw [e0]; exact (dtag_one (len_U (by omega)) hU h2).symm)
  · have hx0 : wordAt (l.set i b) 0 = (rec.length : Int) := by rw [wordAt_set_ne (by omega), e0]
    have hjn : jn (l.set i b) = rec.length := by unfold jn; rw [hx0]; rfl
    rcases Nat.lt_or_ge i 16 with h16 | h16
    · have h1 := wordAt_set_eq hB hb (a := 8) (by omega) (by omega) (by omega) hne
      have h2 := hk.head
      rw [hx0] at h2
      exact h1 (by rw [h2, e1])
    · have hs := hk.sl
      rw [hjn] at hs
      rcases Nat.lt_or_ge i (16 + 8 * rec.length) with hr | hr
      · rw [wordAt_set_ne (by omega), e2] at hs
        have h3 := dtag_eq (by rw [recAt_length]) hs
        rw [recAt_u64 hBx] at h3
        have h4 : rec.map u64 = (List.range rec.length).map fun q => wordAt l (16 + 8 * q) := by
          have := recAt_u64 hB rec.length
          rwa [er] at this
        rw [h4] at h3
        have hjlt : (i - 16) / 8 < rec.length := by omega
        have h5 : ((List.range rec.length).map fun q => wordAt (l.set i b) (16 + 8 * q)) = ((List.range rec.length).map fun q => wordAt l (16 + 8 * q)).set ((i - 16) / 8) (wordAt (l.set i b) (16 + 8 * ((i - 16) / 8))) := by
          apply List.ext_getElem (by simp)
          intro q q1 q2
          simp only [List.getElem_map, List.getElem_range, List.getElem_set]
          split
          · rename_i e; subst e; rfl
          · rename_i e; exact wordAt_set_ne (by omega)
        rw [h5] at h3
        refine dfold_set _ _ _ _ (by simpa using hjlt) ⟨by omega, by omega⟩ (fun x hx => ?_) (wordAt_range hBx _) ?_ h3.symm
        · simp only [List.mem_map] at hx
          obtain ⟨q, _, rfl⟩ := hx
          exact wordAt_range hB _
        · simp only [List.getElem_map, List.getElem_range]
          exact (wordAt_set_eq hB hb (by omega) (by omega) (by omega) hne).symm
      · have h1 := wordAt_set_eq hB hb (a := 16 + 8 * rec.length) (by omega) (by omega) (by omega) hne
        have h6 : recAt (l.set i b) rec.length = rec := by
          rw [← er]
          simp only [recAt_length]
          unfold recAt
          apply List.map_congr_left
          intro q hq
          rw [wordAt_set_ne (by have := List.mem_range.1 hq; omega)]
        rw [h6] at hs
        exact h1 (by rw [hs, e2])
theorem chainB_isB : ∀ (key : Int) (rs : List (List Int)), isB (chainB key rs)
  | _, [] => fun _ h => by simp [chainB] at h
  | key, r :: rs => enc_isB (chainB_isB _ rs)
theorem jall_damage {key : Int} {rs : List (List Int)} {k p : Nat} {b : Int} (h : good rs) (hk : k < rs.length) (h1 : lenR (rs.take k) ≤ p) (h2 : p < lenR (rs.take (k + 1))) (hb : 0 ≤ b ∧ b ≤ 255) (hne : (chainB key rs)[p]? ≠ some b) :
    jall ((chainB key rs).set p b) key = ⟨rs.take k, lenR (rs.take k), lastK key (rs.take k)⟩ := by
  have e : chainB key rs = chainB key (rs.take k) ++ (encB (lastK key (rs.take k)) rs[k] ++ chainB (dtag (lastK key (rs.take k)) rs[k]) (rs.drop (k + 1))) := by
    have := chainB_append key (rs.take k) (rs.drop k)
    rw [List.take_append_drop] at this
    rw [this, List.drop_eq_getElem_cons hk]; rfl
  have hl := chainB_length key (rs.take k)
  rw [e] at hne ⊢
  rw [List.set_append_right _ _ (by omega), jall_chain _ _ _ (h.take k)]
  rw [List.getElem?_append_right (by omega)] at hne
  rw [lenR_succ hk] at h2
  rw [jall_no (jok_set (h _ (List.getElem_mem _)) (chainB_isB _ _) (by omega) hb hne)]
  simp
end Go.Proofs.Yteinlgobadlgnaa
