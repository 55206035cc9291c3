/- Plain laws of the digest tree. -/
import Derived.Test.YtlikefnngkokhaaRef01Pure
set_option linter.unusedVariables false
set_option linter.unusedSimpArgs false
namespace Go.Proofs.Ytlikefnngkokhaa
open Go.RowKit
theorem dclimb_path (m : Nat) : ∀ (d : List Int) (i : Nat), d.length ≤ m → i < d.length → dclimb d.length i (d.getD i 0) (dpath d i) = (droot d, true) := by
  induction m with
  | zero => intro d i h hi; omega
  | succ m ih =>
    intro d i h hi
    by_cases h1 : d.length = 1
    · obtain ⟨x, rfl⟩ := List.length_eq_one_iff.1 h1
      obtain rfl : i = 0 := by simp at hi; omega
      rw [dpath_one (by simp), droot_one]
      exact dclimb_one 0 _ []
    · obtain ⟨a, b, c⟩ := dhalf_spec (n := d.length) (by omega)
      by_cases hk : i < dhalf d.length
      · rw [dpath_left (by omega) hk, dclimb_left (by omega) hk]
        have e1 : (d.take (dhalf d.length)).length = dhalf d.length := by simp; omega
        have e2 : (d.take (dhalf d.length)).getD i 0 = d.getD i 0 := by simp [List.getElem?_take, hk]
        have := ih (d.take (dhalf d.length)) i (by omega) (by omega)
        rw [e1, e2] at this
        rw [this, droot_two (l := d) (by omega)]
      · rw [dpath_right (by omega) hk, dclimb_right (by omega) hk]
        have e1 : (d.drop (dhalf d.length)).length = d.length - dhalf d.length := by simp
        have e2 : (d.drop (dhalf d.length)).getD (i - dhalf d.length) 0 = d.getD i 0 := by
          simp [List.getElem?_drop, show dhalf d.length + (i - dhalf d.length) = i from by omega]
        have := ih (d.drop (dhalf d.length)) (i - dhalf d.length) (by omega) (by omega)
        rw [e1, e2] at this
        rw [this, droot_two (l := d) (by omega)]
theorem dpath_bits : ∀ (k : Nat) (d : List Int) (i : Nat), d.length ≤ 2 ^ k → (dpath d i).length ≤ k := by
  intro k
  induction k with
  | zero => intro d i h; rw [dpath_one (by simpa using h)]; simp
  | succ k ih =>
    intro d i h
    by_cases h1 : d.length ≤ 1
    · rw [dpath_one h1]; simp
    · obtain ⟨a, b, c⟩ := dhalf_spec (n := d.length) (by omega)
      obtain ⟨j, hj⟩ := dhalf_pow d.length
      have hjk : j ≤ k := by
        rcases Nat.lt_or_ge k j with h' | h'
        · have : 2 ^ (k + 1) ≤ 2 ^ j := Nat.pow_le_pow_right (by omega) h'
          omega
        · exact h'
      have hle : dhalf d.length ≤ 2 ^ k := by rw [hj]; exact Nat.pow_le_pow_right (by omega) hjk
      by_cases hk : i < dhalf d.length
      · rw [dpath_left (by omega) hk]
        have := ih (d.take (dhalf d.length)) i (by simp; omega)
        simp; omega
      · rw [dpath_right (by omega) hk]
        have := ih (d.drop (dhalf d.length)) (i - dhalf d.length) (by simp; omega)
        simp; omega
end Go.Proofs.Ytlikefnngkokhaa
