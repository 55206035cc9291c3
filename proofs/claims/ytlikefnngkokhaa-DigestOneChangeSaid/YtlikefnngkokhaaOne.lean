/- Lists and bytes that differ at one place have different digests: plain; no program. -/
import Derived.Test.YtlikefnngkokhaaLevel
import Derived.Test.YtlikefnngkokhaaDigInj
set_option linter.unusedVariables false
set_option linter.unusedSimpArgs false
namespace Go.Proofs.Ytlikefnngkokhaa
open Go.RowKit
theorem dfold_U : ∀ (l : List Int) (h : Int), U h → U (dfold h l)
  | [], h, hU => hU
  | x :: l, h, hU => dfold_U l _ (dstep_U _ _)
theorem dfold_left : ∀ (l : List Int) (g h : Int), U g → U h → dfold g l = dfold h l → g = h
  | [], _, _, _, _, e => e
  | x :: l, g, h, hg, hh, e => dstep_left hg hh (dfold_left l _ _ (dstep_U _ _) (dstep_U _ _) e)
theorem dfold_set : ∀ (l : List Int) (h : Int) (j : Nat) (y : Int) (hj : j < l.length), U h → (∀ x ∈ l, U x) → U y → l[j] ≠ y → dfold h (l.set j y) ≠ dfold h l
  | x :: l, h, 0, y, _, hU, hl, hy, hne => fun e => hne (dstep_right hy (hl x (by simp)) (dfold_left l _ _ (dstep_U _ _) (dstep_U _ _) e)).symm
  | x :: l, h, j + 1, y, hj, hU, hl, hy, hne => dfold_set l _ j y (by simpa using hj) (dstep_U _ _) (fun z hz => hl z (by simp [hz])) hy (by simpa using hne)
theorem i64_u64 {x : Int} (h : InK .i64 x) : IntKind.i64.wrap (u64 x) = x := by
  simp only [InK] at h
  unfold u64
  rw [wrapu_eq]
  simp [IntKind.wrap, IntKind.bits, IntKind.signed]
  omega
theorem set_same {l : List Int} {i : Nat} {x : Int} (hi : i < l.length) (h : l[i] = x) : l.set i x = l := by
  rw [← h]; simp
theorem dwords_one {l : List Int} {i : Nat} {x : Int} (hl : ∀ y ∈ l, InK .i64 y) (hx : InK .i64 x) (hi : i < l.length) : dwords l = dwords (l.set i x) ↔ l[i] = x := by
  constructor
  · intro e
    unfold dwords at e
    rw [List.length_set] at e
    have e1 := dstep_left (dfold_U _ _ ⟨by omega, by omega⟩) (dfold_U _ _ ⟨by omega, by omega⟩) e
    rw [List.map_set] at e1
    by_cases h : l[i] = x
    · exact h
    · refine absurd e1.symm (dfold_set _ _ i (u64 x) (by simpa using hi) ⟨by omega, by omega⟩ (fun y hy => ?_) (u64_range _) (fun e2 => h ?_))
      · obtain ⟨z, _, rfl⟩ := List.mem_map.1 hy
        exact u64_range _
      · rw [List.getElem_map] at e2
        rw [← i64_u64 (hl _ (List.getElem_mem hi)), ← i64_u64 hx, e2]
  · intro h; rw [set_same hi h]
theorem dtag_words {k : Int} {l m : List Int} : dtag k l = dtag k m ↔ dwords l = dwords m :=
  ⟨fun e => dstep_right (dstep_U _ _) (dstep_U _ _) e, fun e => by unfold dtag; rw [e]⟩
theorem dtag_keys {k g : Int} {l : List Int} (hk : U k) (hg : U g) : dtag k l = dtag g l ↔ k = g := ⟨fun e => dstep_left hk hg e, fun e => by rw [e]⟩
theorem djoin_keys {a b c : Int} (ha : U a) (hc : U c) : djoin a b = djoin c b ↔ a = c := ⟨fun e => djoin_left ha hc e, fun e => by rw [e]⟩
theorem djoin_keys2 {a b c : Int} (hb : U b) (hc : U c) : djoin a b = djoin a c ↔ b = c := ⟨fun e => djoin_right hb hc e, fun e => by rw [e]⟩
theorem leSum_inj : ∀ {a b : List Int}, isB a → isB b → a.length = b.length → leSum a = leSum b → a = b
  | [], [], _, _, _, _ => rfl
  | x :: a, y :: b, ha, hb, hl, h => by
    have h1 := ha x (by simp)
    have h2 := hb y (by simp)
    simp only [leSum] at h
    have e : x = y := by omega
    subst e
    have := leSum_inj (a := a) (b := b) (fun z hz => ha z (by simp [hz])) (fun z hz => hb z (by simp [hz])) (by simpa using hl) (by omega)
    rw [this]
theorem dgroups_map : ∀ (n : Nat) (l : List Int), l.length ≤ n → dgroups l = (List.range ((l.length + 7) / 8)).map fun j => leSum ((l.drop (8 * j)).take 8) := by
  intro n
  induction n with
  | zero =>
    intro l h
    obtain rfl : l = [] := List.eq_nil_of_length_eq_zero (by omega)
    rw [dgroups_nil]; rfl
  | succ n ih =>
    intro l h
    by_cases h0 : l.length = 0
    · obtain rfl : l = [] := List.eq_nil_of_length_eq_zero h0
      rw [dgroups_nil]; rfl
    · rw [dgroups_cons (by omega), ih (l.drop 8) (by simp; omega)]
      have e : (l.length + 7) / 8 = (l.length - 8 + 7) / 8 + 1 := by omega
      rw [e, List.range_succ_eq_map, List.map_cons, List.map_map, List.length_drop]
      congr 1
      apply List.map_congr_left
      intro j _
      simp only [Function.comp, List.drop_drop]
      rw [show 8 + 8 * j = 8 * (j + 1) by omega]
theorem dbytes_one {l : List Int} {i : Nat} {x : Int} (hl : isB l) (hx : 0 ≤ x ∧ x ≤ 255) (hi : i < l.length) : dbytes l = dbytes (l.set i x) ↔ l[i] = x := by
  constructor
  · intro e
    unfold dbytes at e
    rw [List.length_set] at e
    have e1 := dstep_left (dfold_U _ _ ⟨by omega, by omega⟩) (dfold_U _ _ ⟨by omega, by omega⟩) e
    by_cases h : l[i] = x
    · exact h
    · have hB : isB (l.set i x) := fun y hy => by
        rcases List.mem_or_eq_of_mem_set hy with h1 | rfl
        · exact hl y h1
        · exact hx
      have hU : ∀ (m : List Int), isB m → ∀ y ∈ dgroups m, U y := fun m hm y hy => by
        rw [dgroups_map _ m (Nat.le_refl _)] at hy
        obtain ⟨j, _, rfl⟩ := List.mem_map.1 hy
        exact leSum8_U (isB_drop hm _) (Nat.le_refl _)
      have e2 : dgroups (l.set i x) = (dgroups l).set (i / 8) (leSum (((l.set i x).drop (8 * (i / 8))).take 8)) := by
        rw [dgroups_map _ l (Nat.le_refl _), dgroups_map _ (l.set i x) (Nat.le_refl _), List.length_set]
        apply List.ext_getElem (by simp)
        intro j h1 h2
        simp only [List.getElem_map, List.getElem_range, List.getElem_set]
        by_cases hj : i / 8 = j
        · rw [if_pos hj, hj]
        · rw [if_neg hj]
          congr 1
          rw [List.drop_set]
          split
          · rfl
          · rw [List.take_set, List.set_eq_of_length_le (by simp; omega)]
      have hlen : (dgroups l).length = (l.length + 7) / 8 := by rw [dgroups_map _ l (Nat.le_refl _)]; simp
      rw [e2] at e1
      refine absurd e1.symm (dfold_set _ _ (i / 8) _ (by rw [hlen]; omega) ⟨by omega, by omega⟩ (hU l hl) (leSum8_U (isB_drop hB _) (Nat.le_refl _)) (fun e3 => h ?_))
      have e4 : (dgroups l)[i / 8]'(by rw [hlen]; omega) = leSum ((l.drop (8 * (i / 8))).take 8) := by
        simp only [dgroups_map _ l (Nat.le_refl _), List.getElem_map, List.getElem_range]
      rw [e4] at e3
      have e5 := leSum_inj (isB_take (isB_drop hl _) 8) (isB_take (isB_drop hB _) 8) (by simp) e3
      have e6 := congrArg (fun q => q[i - 8 * (i / 8)]?) e5
      simp only [List.getElem?_take, List.getElem?_drop] at e6
      rw [if_pos (by omega), if_pos (by omega), show 8 * (i / 8) + (i - 8 * (i / 8)) = i by omega, List.getElem?_set_self hi, List.getElem?_eq_getElem hi] at e6
      injection e6
  · intro h; rw [set_same hi h]
end Go.Proofs.Ytlikefnngkokhaa
