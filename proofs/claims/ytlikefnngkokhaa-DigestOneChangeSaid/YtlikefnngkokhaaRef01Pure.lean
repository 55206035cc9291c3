/- The reference on digests: plain functions. -/
import Derived.Test.YtlikefnngkokhaaTreePure
set_option linter.unusedVariables false
set_option linter.unusedSimpArgs false
namespace Go.Proofs.Ytlikefnngkokhaa
open Go.RowKit
/-- Sides of the reference: level by level. -/
def dsides (n i : Nat) : List Bool :=
  if h : n ≤ 1 then []
  else (if i % 2 = 1 then [true] else if i + 1 < n then [false] else []) ++ dsides ((n + 1) / 2) (i / 2)
termination_by n
decreasing_by omega
theorem dsides_one {n : Nat} (h : n ≤ 1) (i : Nat) : dsides n i = [] := by rw [dsides]; simp [h]
theorem dsides_odd {n i : Nat} (h : 2 ≤ n) (hi : i % 2 = 1) : dsides n i = true :: dsides ((n + 1) / 2) (i / 2) := by
  rw [dsides, dif_neg (by omega), if_pos hi]; rfl
theorem dsides_even {n i : Nat} (h : 2 ≤ n) (hi : ¬ i % 2 = 1) (hj : i + 1 < n) : dsides n i = false :: dsides ((n + 1) / 2) (i / 2) := by
  rw [dsides, dif_neg (by omega), if_neg hi, if_pos hj]; rfl
theorem dsides_last {n i : Nat} (h : 2 ≤ n) (hi : ¬ i % 2 = 1) (hj : ¬ i + 1 < n) : dsides n i = dsides ((n + 1) / 2) (i / 2) := by
  rw [dsides, dif_neg (by omega), if_neg hi, if_neg hj]; rfl
theorem dsides_len (d : Nat) : ∀ n i, n ≤ d → (dsides n i).length ≤ n := by
  induction d with
  | zero => intro n i h; rw [dsides_one (by omega)]; simp
  | succ d ih =>
    intro n i h
    by_cases h1 : n ≤ 1
    · rw [dsides_one h1]; simp
    · have := ih ((n + 1) / 2) (i / 2) (by omega)
      by_cases h2 : i % 2 = 1
      · rw [dsides_odd (by omega) h2]; simp; omega
      · by_cases h3 : i + 1 < n
        · rw [dsides_even (by omega) h2 h3]; simp; omega
        · rw [dsides_last (by omega) h2 h3]; omega
/-- Grown of the reference. -/
def dgrow (out : List Int) (n : Nat) : List Int :=
  if h : out.length < n then dgrow (out ++ [dstep out.length n]) n else out
termination_by n - out.length
decreasing_by simp; omega
theorem dgrow_yes {out : List Int} {n : Nat} (h : out.length < n) : dgrow out n = dgrow (out ++ [dstep out.length n]) n := by rw [dgrow, dif_pos h]
theorem dgrow_no {out : List Int} {n : Nat} (h : ¬ out.length < n) : dgrow out n = out := by rw [dgrow, dif_neg h]
theorem dgrow_len (d : Nat) : ∀ (out : List Int) (n : Nat), n - out.length ≤ d → out.length ≤ n → (dgrow out n).length = n := by
  induction d with
  | zero => intro out n h1 h2; rw [dgrow_no (by omega)]; omega
  | succ d ih =>
    intro out n h1 h2
    by_cases h : out.length < n
    · rw [dgrow_yes h]; exact ih _ n (by simp; omega) (by simp; omega)
    · rw [dgrow_no h]; omega
/-- A list of n digests that begins with given ones. -/
def dgrown (l : List Int) (n : Nat) : List Int := dgrow (l.take n) n
theorem dgrown_len (l : List Int) (n : Nat) : (dgrown l n).length = n := dgrow_len n _ n (by omega) (by simp; omega)
def dup (h o : Int) (left : Bool) : Int := if left then djoin o h else djoin h o
end Go.Proofs.Ytlikefnngkokhaa
