/- The sides of a path, level by level, are those by halves. -/
import Derived.Test.YtlikefnngkokhaaTreeInj
set_option linter.unusedVariables false
set_option linter.unusedSimpArgs false
namespace Go.Proofs.Ytlikefnngkokhaa
open Go.RowKit
theorem halfGo_double (d : Nat) : ∀ (k n : Nat), n - k ≤ d → 0 < k → halfGo (2 * k) n = 2 * halfGo k ((n + 1) / 2) := by
  induction d with
  | zero =>
    intro k n h h0
    rw [halfGo_no (k := 2 * k) (by omega), halfGo_no (by omega)]
  | succ d ih =>
    intro k n h h0
    by_cases h1 : 2 * (2 * k) < n
    · rw [halfGo_yes (k := 2 * k) (by omega) h1, halfGo_yes (k := k) h0 (by omega)]
      exact ih (2 * k) n (by omega) (by omega)
    · rw [halfGo_no h1, halfGo_no (k := k) (by omega)]
theorem dhalf_double {n : Nat} (h : 3 ≤ n) : dhalf n = 2 * dhalf ((n + 1) / 2) := by
  unfold dhalf
  rw [halfGo_yes (k := 1) (by omega) (by omega)]
  exact halfGo_double n 1 n (by omega) (by omega)
/-- The first side: that of the leaves' level. -/
def side0 (n i : Nat) : List Bool := if i % 2 = 1 then [true] else if i + 1 < n then [false] else []
theorem dsides_step {n : Nat} (h : 2 ≤ n) (i : Nat) : dsides n i = side0 n i ++ dsides ((n + 1) / 2) (i / 2) := by
  rw [dsides, dif_neg (by omega)]; rfl
theorem dsideH_step (d : Nat) : ∀ (n i : Nat), n ≤ d → 2 ≤ n → i < n → dsideH n i = side0 n i ++ dsideH ((n + 1) / 2) (i / 2) := by
  induction d with
  | zero => intro n i h h2 hi; omega
  | succ d ih =>
    intro n i hd h2 hi
    by_cases h3 : n = 2
    · subst h3
      have e2 : dhalf 2 = 1 := by unfold dhalf; rw [halfGo_no (by omega)]
      by_cases hk : i < 1
      · obtain rfl : i = 0 := by omega
        rw [dsideH_left (by omega) (by rw [e2]; omega), e2]; simp [dsideH_one, side0]
      · obtain rfl : i = 1 := by omega
        rw [dsideH_right (by omega) (by rw [e2]; omega), e2]; simp [dsideH_one, side0]
    · obtain ⟨a, b, c⟩ := dhalf_spec (n := n) (by omega)
      have e := dhalf_double (n := n) (by omega)
      obtain ⟨a', b', c'⟩ := dhalf_spec (n := (n + 1) / 2) (by omega)
      obtain ⟨k, hk⟩ : ∃ k, k = dhalf ((n + 1) / 2) := ⟨_, rfl⟩
      rw [← hk] at e a' b' c'
      by_cases hi2 : i < dhalf n
      · rw [dsideH_left (by omega) hi2, dsideH_left (n := (n + 1) / 2) (by omega) (by rw [← hk]; omega), ← hk, e, ih (2 * k) i (by omega) (by omega) (by omega)]
        have e1 : (2 * k + 1) / 2 = k := by omega
        have e3 : side0 (2 * k) i = side0 n i := by
          unfold side0
          by_cases ho : i % 2 = 1
          · rw [if_pos ho, if_pos ho]
          · rw [if_neg ho, if_neg ho, if_pos (by omega), if_pos (by omega)]
        rw [e1, e3, List.append_assoc]
      · rw [dsideH_right (by omega) hi2, dsideH_right (n := (n + 1) / 2) (by omega) (by rw [← hk]; omega), ← hk]
        by_cases hn1 : n - dhalf n = 1
        · have hii : i - dhalf n = 0 := by omega
          rw [hn1, hii, dsideH_one (by omega), dsideH_one (n := (n + 1) / 2 - k) (by omega)]
          have e3 : side0 n i = [] := by
            unfold side0
            rw [if_neg (by omega), if_neg (by omega)]
          rw [e3]; rfl
        · rw [ih (n - dhalf n) (i - dhalf n) (by omega) (by omega) (by omega)]
          have e1 : (n - dhalf n + 1) / 2 = (n + 1) / 2 - k := by omega
          have e2 : (i - dhalf n) / 2 = i / 2 - k := by omega
          have e3 : side0 (n - dhalf n) (i - dhalf n) = side0 n i := by
            unfold side0
            by_cases ho : i % 2 = 1
            · rw [if_pos (by omega), if_pos ho]
            · rw [if_neg (by omega), if_neg ho]
              by_cases hl : i + 1 < n
              · rw [if_pos (by omega), if_pos hl]
              · rw [if_neg (by omega), if_neg hl]
          rw [e1, e2, e3, List.append_assoc]
theorem dsides_eq (d : Nat) : ∀ (n i : Nat), n ≤ d → i < n → dsides n i = dsideH n i := by
  induction d with
  | zero => intro n i h hi; omega
  | succ d ih =>
    intro n i h hi
    by_cases h2 : 2 ≤ n
    · rw [dsides_step h2, dsideH_step n n i (Nat.le_refl _) h2 hi, ih ((n + 1) / 2) (i / 2) (by omega) (by omega)]
    · rw [dsides_one (by omega), dsideH_one (by omega)]
theorem dfoldUp_take (h : Int) : ∀ (p : List Int) (s : List Bool) (k : Nat) (hp : k < p.length) (hs : k < s.length),
    dfoldUp h (p.take (k + 1)) (s.take (k + 1)) = dup (dfoldUp h (p.take k) (s.take k)) p[k] s[k] := by
  intro p s k hp hs
  rw [take_snoc' p k hp, take_snoc' s k hs, dfoldUp_snoc _ _ _ _ _ (by simp; omega)]
end Go.Proofs.Ytlikefnngkokhaa
