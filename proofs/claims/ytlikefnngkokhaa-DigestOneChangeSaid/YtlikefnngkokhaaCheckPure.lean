/- What Check answers, as a plain function, and when it answers OK. -/
import Derived.Test.YtlikefnngkokhaaExPure
import Derived.Test.YtlikefnngkokhaaTreeInj
set_option linter.unusedVariables false
set_option linter.unusedSimpArgs false
namespace Go.Proofs.Ytlikefnngkokhaa
open Go.RowKit
/-- What Check answers: 0, ErrArg 1, ErrNot 6. -/
def dcheck (root n i d : Int) (p : List Int) : Int :=
  if n < 1 ∨ 4096 < n ∨ i < 0 ∨ n ≤ i then 1
  else if dclimb n.toNat i.toNat d p = (root, true) then 0 else 6
theorem ex_check1 : dcheck (djoin (djoin 5 6) 7) 3 2 7 [djoin 5 6] = 0 := by
  unfold dcheck
  rw [if_neg (by omega), show (3 : Int).toNat = 3 from rfl, show (2 : Int).toNat = 2 from rfl, ex_climb, if_pos rfl]
theorem ex_check2 : dcheck (djoin (djoin 5 6) 7) 3 2 7 [6, 7] = 6 := by
  unfold dcheck
  rw [if_neg (by omega), if_neg]
  intro h
  have := ex_climb2 7 6 7
  rw [show (3 : Int).toNat = 3 from rfl, show (2 : Int).toNat = 2 from rfl] at h
  rw [h] at this
  cases this
theorem ex_check3 (r i d : Int) (p : List Int) : dcheck r 0 i d p = 1 := if_pos (.inl (by omega))
theorem dcheck_eq (root : Int) {n i : Nat} (h : Int) (p : List Int) (h1 : 1 ≤ n) (h2 : n ≤ 4096) (hi : i < n) :
    dcheck root n i h p = if p.length = (dsideH n i).length ∧ dfoldUp h p (dsideH n i) = root then 0 else 6 := by
  unfold dcheck
  rw [if_neg (by omega), Int.toNat_natCast, Int.toNat_natCast]
  obtain ⟨a, b⟩ := dclimb_fold n n i h p (Nat.le_refl _) h1 hi
  by_cases hl : p.length = (dsideH n i).length
  · rw [a hl]
    by_cases hr : dfoldUp h p (dsideH n i) = root
    · rw [if_pos (by rw [hr]), if_pos ⟨hl, hr⟩]
    · rw [if_neg (fun e => hr (Prod.mk.inj e).1), if_neg (fun e => hr e.2)]
  · rw [if_neg (fun e => by have := b hl; rw [e] at this; cases this), if_neg (fun e => hl e.1)]
section
variable {d : List Int} {i : Nat}
theorem check_leaf (hd : Us d) (h2 : d.length ≤ 4096) (hi : i < d.length) {v : Int} (hv : U v) : dcheck (droot d) d.length i v (dpath d i) = if v = d.getD i 0 then 0 else 6 := by
  rw [dcheck_eq _ _ _ (by omega) h2 hi]
  by_cases e : v = d.getD i 0
  · rw [if_pos e, if_pos ⟨dpath_sides _ d i (Nat.le_refl _), by rw [e]; exact (droot_fold d i hi).symm⟩]
  · rw [if_neg e, if_neg]
    rintro ⟨_, h⟩
    rw [droot_fold d i hi] at h
    exact e (dfoldUp_inj hv (hd.getD i hi) _ _ h)
theorem check_own (h2 : d.length ≤ 4096) (hi : i < d.length) : dcheck (droot d) d.length i (d.getD i 0) (dpath d i) = 0 := by
  rw [dcheck_eq _ _ _ (by omega) h2 hi, if_pos ⟨dpath_sides _ d i (Nat.le_refl _), (droot_fold d i hi).symm⟩]
theorem check_len (h2 : d.length ≤ 4096) (hi : i < d.length) (r h : Int) {p : List Int} (hp : p.length ≠ (dpath d i).length) : dcheck r d.length i h p = 6 := by
  rw [dcheck_eq _ _ _ (by omega) h2 hi, if_neg]
  rintro ⟨a, _⟩
  exact hp (a.trans (dpath_sides _ d i (Nat.le_refl _)).symm)
theorem check_set (hd : Us d) (h2 : d.length ≤ 4096) (hi : i < d.length) {v : Int} (hv : U v) {j : Nat} (hj : j < (dpath d i).length) :
    dcheck (droot d) d.length i (d.getD i 0) ((dpath d i).set j v) = if v = (dpath d i).getD j 0 then 0 else 6 := by
  rw [dcheck_eq _ _ _ (by omega) h2 hi]
  have hs := dpath_sides _ d i (Nat.le_refl _)
  by_cases e : v = (dpath d i).getD j 0
  · have : (dpath d i).set j v = dpath d i := by
      rw [e, List.getD_eq_getElem?_getD, List.getElem?_eq_getElem hj]; simp
    rw [if_pos e, this, if_pos ⟨hs, (droot_fold d i hi).symm⟩]
  · rw [if_neg e, if_neg]
    rintro ⟨_, h⟩
    rw [droot_fold d i hi] at h
    exact e (dfoldUp_set hv _ _ _ j (dpath_Us _ d i (Nat.le_refl _) hd) hs hj h)
end
theorem dpath_set (m : Nat) : ∀ (d : List Int) (i : Nat) (v : Int), d.length ≤ m → i < d.length → dpath (d.set i v) i = dpath d i := by
  induction m with
  | zero => intro d i v h hi; omega
  | succ m ih =>
    intro d i v h hi
    by_cases h1 : d.length ≤ 1
    · rw [dpath_one (by simpa using h1), dpath_one h1]
    · obtain ⟨a, b, c⟩ := dhalf_spec (n := d.length) (by omega)
      by_cases hk : i < dhalf d.length
      · rw [dpath_left (l := d.set i v) (by simp; omega) (by simpa using hk), dpath_left (by omega) hk]
        simp only [List.length_set]
        rw [List.take_set, ih _ i v (by simp; omega) (by simp; omega), List.drop_set, if_pos (by omega)]
      · rw [dpath_right (l := d.set i v) (by simp; omega) (by simpa using hk), dpath_right (by omega) hk]
        simp only [List.length_set]
        rw [List.drop_set, if_neg (by omega), ih _ _ v (by simp; omega) (by simp; omega), List.take_set, List.set_eq_of_length_le (by simp; omega)]
section
variable {d : List Int} {i : Nat}
theorem root_set (hd : Us d) (hi : i < d.length) {v : Int} (hv : U v) : droot (d.set i v) = droot d ↔ v = d.getD i 0 := by
  have h1 := droot_fold (d.set i v) i (by simpa using hi)
  rw [dpath_set d.length d i v (Nat.le_refl _) hi, List.length_set] at h1
  have e1 : (d.set i v).getD i 0 = v := by simp [List.getElem?_set, hi]
  rw [e1] at h1
  constructor
  · intro e
    rw [h1, droot_fold d i hi] at e
    exact dfoldUp_inj hv (hd.getD i hi) _ _ e
  · intro e
    rw [h1, droot_fold d i hi, e]
theorem check_changed (h2 : d.length ≤ 4096) (hi : i < d.length) (v : Int) : dcheck (droot (d.set i v)) d.length i v (dpath d i) = 0 := by
  have h := check_own (d := d.set i v) (i := i) (by simpa using h2) (by simpa using hi)
  rw [dpath_set d.length d i v (Nat.le_refl _) hi, List.length_set] at h
  have e1 : (d.set i v).getD i 0 = v := by simp [List.getElem?_set, hi]
  rwa [e1] at h
end
end Go.Proofs.Ytlikefnngkokhaa
