/- The fixed examples of the digest law, plain. -/
import Derived.Test.YtlikefnngkokhaaRef01Pure
set_option linter.unusedVariables false
set_option linter.unusedSimpArgs false
namespace Go.Proofs.Ytlikefnngkokhaa
open Go.RowKit
theorem half2 : dhalf 2 = 1 := by rw [dhalf, halfGo_no (by omega)]
theorem half3 : dhalf 3 = 2 := by rw [dhalf, halfGo_yes (by omega) (by omega), halfGo_no (by omega)]
theorem ex_root2 (a b : Int) : droot [a, b] = djoin a b := by
  rw [droot_two (by simp)]
  simp only [List.length_cons, List.length_nil, Nat.zero_add, Nat.reduceAdd, half2, List.take, List.drop, droot_one]
theorem ex_root : droot [5, 6, 7] = djoin (djoin 5 6) 7 := by
  rw [droot_two (by simp)]
  simp only [List.length_cons, List.length_nil, Nat.zero_add, Nat.reduceAdd, half3, List.take, List.drop, droot_one, ex_root2]
theorem ex_path2 : dpath [5, 6, 7] 2 = [djoin 5 6] := by
  rw [dpath_right (by simp) (by simp [half3])]
  simp only [List.length_cons, List.length_nil, Nat.zero_add, Nat.reduceAdd, half3, List.take, List.drop, droot_one, ex_root2]
  rw [dpath_one (by simp)]; rfl
theorem ex_path0 : dpath [5, 6, 7] 0 = [6, 7] := by
  rw [dpath_left (by simp) (by simp [half3])]
  simp only [List.length_cons, List.length_nil, Nat.zero_add, Nat.reduceAdd, half3, List.take, List.drop, droot_one, ex_root2]
  rw [dpath_left (by simp) (by simp [half2])]
  simp only [List.length_cons, List.length_nil, Nat.zero_add, Nat.reduceAdd, half2, List.take, List.drop, droot_one]
  rw [dpath_one (by simp)]; rfl
theorem ex_climb (x y : Int) : dclimb 3 2 x [y] = (djoin y x, true) := by
  have := dclimb_right (n := 3) (by omega) (i := 2) (by simp [half3]) x [] y
  simp only [List.nil_append] at this
  rw [this, half3, dclimb_one]; rfl
theorem ex_climb2 (x y z : Int) : (dclimb 3 2 x [y, z]).2 = false := by
  have := dclimb_right (n := 3) (by omega) (i := 2) (by simp [half3]) x [y] z
  simp only [List.cons_append, List.nil_append] at this
  rw [this, half3, dclimb_one]; rfl
end Go.Proofs.Ytlikefnngkokhaa
