/- The digest tree by halves, plain functions and their laws. -/
import Derived.Test.YtlikefnngkokhaaDigPure
set_option linter.unusedVariables false
set_option linter.unusedSimpArgs false
namespace Go.Proofs.Ytlikefnngkokhaa
open Go.RowKit

/-- The loop of half: from k on. -/
def halfGo (k n : Nat) : Nat := if h : 0 < k ∧ 2 * k < n then halfGo (2 * k) n else k
termination_by n - k
def dhalf (n : Nat) : Nat := halfGo 1 n
theorem halfGo_yes {k n : Nat} (h0 : 0 < k) (h : 2 * k < n) : halfGo k n = halfGo (2 * k) n := by
  rw [halfGo]; simp [h0, h]
theorem halfGo_no {k n : Nat} (h : ¬ 2 * k < n) : halfGo k n = k := by
  rw [halfGo]; simp [h]
theorem halfGo_spec (d : Nat) : ∀ (k n : Nat), n - k ≤ d → 0 < k → k < n → halfGo k n < n ∧ n ≤ 2 * halfGo k n ∧ k ≤ halfGo k n := by
  induction d with
  | zero => intro k n h h0 h1; omega
  | succ d ih =>
    intro k n h h0 h1
    by_cases h2 : 2 * k < n
    · rw [halfGo_yes h0 h2]
      have := ih (2 * k) n (by omega) (by omega) h2
      omega
    · rw [halfGo_no h2]; omega
theorem dhalf_spec {n : Nat} (h : 2 ≤ n) : dhalf n < n ∧ n ≤ 2 * dhalf n ∧ 1 ≤ dhalf n := halfGo_spec n 1 n (by omega) (by omega) (by omega)
/-- It is a power of two. -/
theorem halfGo_pow (d : Nat) : ∀ (k n : Nat), n - k ≤ d → 0 < k → (∃ j, k = 2 ^ j) → ∃ j, halfGo k n = 2 ^ j := by
  induction d with
  | zero => intro k n h h0 hj; rw [halfGo_no (by omega)]; exact hj
  | succ d ih =>
    intro k n h h0 hj
    by_cases h2 : 2 * k < n
    · rw [halfGo_yes h0 h2]
      obtain ⟨j, rfl⟩ := hj
      exact ih _ n (by omega) (by omega) ⟨j + 1, by rw [Nat.pow_succ, Nat.mul_comm]⟩
    · rw [halfGo_no h2]; exact hj
theorem dhalf_pow (n : Nat) : ∃ j, dhalf n = 2 ^ j := halfGo_pow n 1 n (by omega) (by omega) ⟨0, rfl⟩

/-- The root of a tree, by halves. -/
def droot (l : List Int) : Int :=
  if h0 : l.length = 0 then dwords []
  else if h1 : l.length = 1 then l.headD 0
  else djoin (droot (l.take (dhalf l.length))) (droot (l.drop (dhalf l.length)))
termination_by l.length
decreasing_by
  all_goals
    have := dhalf_spec (n := l.length) (by omega)
    simp
    omega
theorem droot_nil : droot [] = dwords [] := by rw [droot]; simp
theorem droot_one (x : Int) : droot [x] = x := by rw [droot]; simp
theorem droot_two {l : List Int} (h : 2 ≤ l.length) : droot l = djoin (droot (l.take (dhalf l.length))) (droot (l.drop (dhalf l.length))) := by
  rw [droot]
  rw [dif_neg (by omega), dif_neg (by omega)]

/-- The path of a leaf, by halves. -/
def dpath (l : List Int) (i : Nat) : List Int :=
  if h1 : l.length ≤ 1 then []
  else if i < dhalf l.length then dpath (l.take (dhalf l.length)) i ++ [droot (l.drop (dhalf l.length))]
  else dpath (l.drop (dhalf l.length)) (i - dhalf l.length) ++ [droot (l.take (dhalf l.length))]
termination_by l.length
decreasing_by
  all_goals
    have := dhalf_spec (n := l.length) (by omega)
    simp
    omega
theorem dpath_one {l : List Int} (h : l.length ≤ 1) (i : Nat) : dpath l i = [] := by rw [dpath]; simp [h]
theorem dpath_left {l : List Int} (h : 2 ≤ l.length) {i : Nat} (hi : i < dhalf l.length) : dpath l i = dpath (l.take (dhalf l.length)) i ++ [droot (l.drop (dhalf l.length))] := by
  rw [dpath, dif_neg (by omega), if_pos hi]
theorem dpath_right {l : List Int} (h : 2 ≤ l.length) {i : Nat} (hi : ¬ i < dhalf l.length) : dpath l i = dpath (l.drop (dhalf l.length)) (i - dhalf l.length) ++ [droot (l.take (dhalf l.length))] := by
  rw [dpath, dif_neg (by omega), if_neg hi]

theorem dpath_len (d : Nat) : ∀ (l : List Int) (i : Nat), l.length ≤ d → (dpath l i).length ≤ l.length := by
  induction d with
  | zero => intro l i h; rw [dpath_one (by omega)]; simp
  | succ d ih =>
    intro l i h
    by_cases h1 : l.length ≤ 1
    · rw [dpath_one h1]; simp
    · obtain ⟨a, b, c⟩ := dhalf_spec (n := l.length) (by omega)
      by_cases hi : i < dhalf l.length
      · rw [dpath_left (by omega) hi]
        have := ih (l.take (dhalf l.length)) i (by simp; omega)
        simp at this ⊢; omega
      · rw [dpath_right (by omega) hi]
        have := ih (l.drop (dhalf l.length)) (i - dhalf l.length) (by simp; omega)
        simp at this ⊢; omega

/-- What climb hands back: the root that a leaf and a path come to, and whether the path's length fits. -/
def dclimb (n i : Nat) (h : Int) (p : List Int) : Int × Bool :=
  if hn : n ≤ 1 then (h, p.isEmpty)
  else if p.isEmpty then (0, false)
  else if i < dhalf n then (djoin (dclimb (dhalf n) i h p.dropLast).1 (p.getLastD 0), (dclimb (dhalf n) i h p.dropLast).2)
  else (djoin (p.getLastD 0) (dclimb (n - dhalf n) (i - dhalf n) h p.dropLast).1, (dclimb (n - dhalf n) (i - dhalf n) h p.dropLast).2)
termination_by n
decreasing_by
  all_goals
    have := dhalf_spec (n := n) (by omega)
    omega
theorem dclimb_one (i : Nat) (h : Int) (p : List Int) : dclimb 1 i h p = (h, p.isEmpty) := by rw [dclimb]; simp
theorem dclimb_nil {n : Nat} (hn : 2 ≤ n) (i : Nat) (h : Int) : dclimb n i h [] = (0, false) := by rw [dclimb, dif_neg (by omega)]; simp
theorem isEmpty_eq (p : List Int) : p.isEmpty = ((p.length : Int) == 0) := by
  cases p with
  | nil => rfl
  | cons x p => simp; omega
theorem dclimb_left {n : Nat} (hn : 2 ≤ n) {i : Nat} (hi : i < dhalf n) (h : Int) (q : List Int) (x : Int) :
    dclimb n i h (q ++ [x]) = (djoin (dclimb (dhalf n) i h q).1 x, (dclimb (dhalf n) i h q).2) := by
  rw [dclimb, dif_neg (by omega), if_neg (by simp), if_pos hi]
  simp
theorem dclimb_right {n : Nat} (hn : 2 ≤ n) {i : Nat} (hi : ¬ i < dhalf n) (h : Int) (q : List Int) (x : Int) :
    dclimb n i h (q ++ [x]) = (djoin x (dclimb (n - dhalf n) (i - dhalf n) h q).1, (dclimb (n - dhalf n) (i - dhalf n) h q).2) := by
  rw [dclimb, dif_neg (by omega), if_neg (by simp), if_neg hi]
  simp
end Go.Proofs.Ytlikefnngkokhaa
