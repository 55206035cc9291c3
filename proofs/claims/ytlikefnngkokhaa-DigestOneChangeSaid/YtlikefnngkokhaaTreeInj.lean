/- What a leaf and a path come to, as a fold over the path; it is injective in the leaf and in each digest of the path; the sides by halves are the sides level by level. -/
import Derived.Test.YtlikefnngkokhaaTreeLaw
import Derived.Test.YtlikefnngkokhaaDigInj
set_option linter.unusedVariables false
set_option linter.unusedSimpArgs false
namespace Go.Proofs.Ytlikefnngkokhaa
open Go.RowKit
theorem dup_false (h o : Int) : dup h o false = djoin h o := by unfold dup; rw [if_neg (by simp)]
theorem dup_true (h o : Int) : dup h o true = djoin o h := by unfold dup; rw [if_pos rfl]
/-- The sides of a path, by halves. -/
def dsideH (n i : Nat) : List Bool :=
  if hn : n ≤ 1 then []
  else if i < dhalf n then dsideH (dhalf n) i ++ [false] else dsideH (n - dhalf n) (i - dhalf n) ++ [true]
termination_by n
decreasing_by
  all_goals
    have := dhalf_spec (n := n) (by omega)
    omega
theorem dsideH_one {n : Nat} (h : n ≤ 1) (i : Nat) : dsideH n i = [] := by rw [dsideH]; simp [h]
theorem dsideH_left {n i : Nat} (h : 2 ≤ n) (hi : i < dhalf n) : dsideH n i = dsideH (dhalf n) i ++ [false] := by rw [dsideH, dif_neg (by omega), if_pos hi]
theorem dsideH_right {n i : Nat} (h : 2 ≤ n) (hi : ¬ i < dhalf n) : dsideH n i = dsideH (n - dhalf n) (i - dhalf n) ++ [true] := by rw [dsideH, dif_neg (by omega), if_neg hi]
def dfoldUp : Int → List Int → List Bool → Int
  | h, x :: p, b :: s => dfoldUp (dup h x b) p s
  | h, _, _ => h
theorem dfoldUp_snoc (h x : Int) (b : Bool) : ∀ (p : List Int) (s : List Bool), p.length = s.length → dfoldUp h (p ++ [x]) (s ++ [b]) = dup (dfoldUp h p s) x b := by
  intro p
  induction p generalizing h with
  | nil => intro s hs; obtain rfl : s = [] := List.eq_nil_of_length_eq_zero (by simpa using hs.symm); rfl
  | cons y p ih =>
    intro s hs
    cases s with
    | nil => simp at hs
    | cons c s => simp only [List.cons_append, dfoldUp]; exact ih _ s (by simpa using hs)
theorem dclimb_fold (m : Nat) : ∀ (n i : Nat) (h : Int) (p : List Int), n ≤ m → 1 ≤ n → i < n →
    (p.length = (dsideH n i).length → dclimb n i h p = (dfoldUp h p (dsideH n i), true)) ∧ (p.length ≠ (dsideH n i).length → (dclimb n i h p).2 = false) := by
  induction m with
  | zero => intro n i h p h1 h2 h3; omega
  | succ m ih =>
    intro n i h p hm h1 hi
    by_cases e1 : n = 1
    · subst e1
      rw [dsideH_one (by omega), dclimb_one]
      cases p with
      | nil => exact ⟨fun _ => rfl, fun h => absurd rfl h⟩
      | cons x p => exact ⟨fun h => by simp at h, fun _ => rfl⟩
    · obtain ⟨a, b, c⟩ := dhalf_spec (n := n) (by omega)
      rcases List.eq_nil_or_concat p with rfl | ⟨q, x, rfl⟩
      · rw [dclimb_nil (by omega)]
        refine ⟨fun h => ?_, fun _ => rfl⟩
        by_cases hk : i < dhalf n
        · rw [dsideH_left (by omega) hk] at h; simp at h
        · rw [dsideH_right (by omega) hk] at h; simp at h
      · rw [List.concat_eq_append]
        by_cases hk : i < dhalf n
        · rw [dsideH_left (by omega) hk, dclimb_left (by omega) hk]
          obtain ⟨i1, i2⟩ := ih (dhalf n) i h q (by omega) (by omega) hk
          refine ⟨fun hl => ?_, fun hl => ?_⟩
          · have hl' : q.length = (dsideH (dhalf n) i).length := by simpa using hl
            rw [i1 hl', dfoldUp_snoc _ _ _ _ _ hl', dup_false]
          · exact i2 (by simpa using hl)
        · rw [dsideH_right (by omega) hk, dclimb_right (by omega) hk]
          obtain ⟨i1, i2⟩ := ih (n - dhalf n) (i - dhalf n) h q (by omega) (by omega) (by omega)
          refine ⟨fun hl => ?_, fun hl => ?_⟩
          · have hl' : q.length = (dsideH (n - dhalf n) (i - dhalf n)).length := by simpa using hl
            rw [i1 hl', dfoldUp_snoc _ _ _ _ _ hl', dup_true]
          · exact i2 (by simpa using hl)
theorem dpath_sides (m : Nat) : ∀ (d : List Int) (i : Nat), d.length ≤ m → (dpath d i).length = (dsideH d.length i).length := by
  induction m with
  | zero => intro d i h; rw [dpath_one (by omega), dsideH_one (by omega)]; rfl
  | succ m ih =>
    intro d i h
    by_cases h1 : d.length ≤ 1
    · rw [dpath_one h1, dsideH_one h1]; rfl
    · obtain ⟨a, b, c⟩ := dhalf_spec (n := d.length) (by omega)
      by_cases hk : i < dhalf d.length
      · rw [dpath_left (by omega) hk, dsideH_left (by omega) hk]
        have := ih (d.take (dhalf d.length)) i (by simp; omega)
        rw [show (d.take (dhalf d.length)).length = dhalf d.length from by simp; omega] at this
        simp [this]
      · rw [dpath_right (by omega) hk, dsideH_right (by omega) hk]
        have := ih (d.drop (dhalf d.length)) (i - dhalf d.length) (by simp; omega)
        rw [show (d.drop (dhalf d.length)).length = d.length - dhalf d.length from by simp] at this
        simp [this]
theorem dpath_zero (d : List Int) (i : Nat) (h : (dpath d i).length = 0) : d.length ≤ 1 := by
  rcases Nat.lt_or_ge d.length 2 with h1 | h1
  · omega
  · by_cases hk : i < dhalf d.length
    · rw [dpath_left h1 hk] at h; simp at h
    · rw [dpath_right h1 hk] at h; simp at h
theorem droot_fold (d : List Int) (i : Nat) (hi : i < d.length) : droot d = dfoldUp (d.getD i 0) (dpath d i) (dsideH d.length i) := by
  have h1 := dclimb_path d.length d i (Nat.le_refl _) hi
  have h2 := (dclimb_fold d.length d.length i (d.getD i 0) (dpath d i) (Nat.le_refl _) (by omega) hi).1 (dpath_sides d.length d i (Nat.le_refl _))
  rw [h2] at h1
  exact (Prod.mk.inj h1).1.symm

/-! ### Ranges -/
def Us (l : List Int) : Prop := ∀ x ∈ l, U x
theorem Us.getD {l : List Int} (h : Us l) (i : Nat) (hi : i < l.length) : U (l.getD i 0) := by
  simp only [List.getD_eq_getElem?_getD, List.getElem?_eq_getElem hi, Option.getD_some]; exact h _ (List.getElem_mem hi)
theorem dup_U (h o : Int) (b : Bool) : U (dup h o b) := by unfold dup; split <;> exact djoin_U _ _
theorem dfoldUp_U {h : Int} (hh : U h) : ∀ (p : List Int) (s : List Bool), U (dfoldUp h p s)
  | [], _ => by simpa [dfoldUp] using hh
  | _ :: _, [] => by simpa [dfoldUp] using hh
  | x :: p, b :: s => by simp only [dfoldUp]; exact dfoldUp_U (dup_U _ _ _) p s
theorem dgrow_Us (m : Nat) : ∀ (out : List Int) (n : Nat), n - out.length ≤ m → Us out → Us (dgrow out n) := by
  induction m with
  | zero => intro out n h ho; rw [dgrow_no (by omega)]; exact ho
  | succ m ih =>
    intro out n h ho
    by_cases hlt : out.length < n
    · rw [dgrow_yes hlt]
      refine ih _ n (by simp; omega) (fun x hx => ?_)
      rcases List.mem_append.1 hx with hx | hx
      · exact ho x hx
      · rw [List.mem_singleton.1 hx]; exact dstep_U _ _
    · rw [dgrow_no hlt]; exact ho
theorem dgrown_Us {l : List Int} (hl : Us l) (n : Nat) : Us (dgrown l n) := dgrow_Us n _ n (by omega) (fun x hx => hl x (List.mem_of_mem_take hx))
theorem droot_U (m : Nat) : ∀ d : List Int, d.length ≤ m → Us d → U (droot d) := by
  induction m with
  | zero => intro d h hd; obtain rfl : d = [] := List.eq_nil_of_length_eq_zero (by omega); rw [droot_nil]; exact dstep_U _ _
  | succ m ih =>
    intro d h hd
    match d, hd with
    | [], _ => rw [droot_nil]; exact dstep_U _ _
    | [x], hd => rw [droot_one]; exact hd x (by simp)
    | x :: y :: l, _ => rw [droot_two (by simp)]; exact djoin_U _ _
theorem dpath_Us (m : Nat) : ∀ (d : List Int) (i : Nat), d.length ≤ m → Us d → Us (dpath d i) := by
  induction m with
  | zero => intro d i h hd; rw [dpath_one (by omega)]; intro x hx; simp at hx
  | succ m ih =>
    intro d i h hd
    by_cases h1 : d.length ≤ 1
    · rw [dpath_one h1]; intro x hx; simp at hx
    · obtain ⟨a, b, c⟩ := dhalf_spec (n := d.length) (by omega)
      have ht : Us (d.take (dhalf d.length)) := fun x hx => hd x (List.mem_of_mem_take hx)
      have hr : Us (d.drop (dhalf d.length)) := fun x hx => hd x (List.mem_of_mem_drop hx)
      by_cases hk : i < dhalf d.length
      · rw [dpath_left (by omega) hk]
        intro x hx
        rcases List.mem_append.1 hx with hx | hx
        · exact ih _ i (by simp; omega) ht x hx
        · rw [List.mem_singleton.1 hx]; exact droot_U _ _ (Nat.le_refl _) hr
      · rw [dpath_right (by omega) hk]
        intro x hx
        rcases List.mem_append.1 hx with hx | hx
        · exact ih _ _ (by simp; omega) hr x hx
        · rw [List.mem_singleton.1 hx]; exact droot_U _ _ (Nat.le_refl _) ht

/-! ### One change -/
theorem dup_inj_h {h g o : Int} {b : Bool} (hh : U h) (hg : U g) (e : dup h o b = dup g o b) : h = g := by
  cases b
  · rw [dup_false, dup_false] at e; exact djoin_left hh hg e
  · rw [dup_true, dup_true] at e; exact djoin_right hh hg e
theorem dup_inj_o {h o o' : Int} {b : Bool} (ho : U o) (ho' : U o') (e : dup h o b = dup h o' b) : o = o' := by
  cases b
  · rw [dup_false, dup_false] at e; exact djoin_right ho ho' e
  · rw [dup_true, dup_true] at e; exact djoin_left ho ho' e
theorem dfoldUp_inj {h g : Int} (hh : U h) (hg : U g) : ∀ (p : List Int) (s : List Bool), dfoldUp h p s = dfoldUp g p s → h = g
  | [], _, e => by simpa [dfoldUp] using e
  | _ :: _, [], e => by simpa [dfoldUp] using e
  | x :: p, b :: s, e => by
    simp only [dfoldUp] at e
    exact dup_inj_h hh hg (dfoldUp_inj (dup_U _ _ _) (dup_U _ _ _) p s e)
theorem dfoldUp_set {v : Int} (hv : U v) : ∀ (h : Int) (p : List Int) (s : List Bool) (j : Nat), Us p → p.length = s.length → j < p.length → dfoldUp h (p.set j v) s = dfoldUp h p s → v = p.getD j 0
  | h, [], s, j, _, _, hj, _ => by simp at hj
  | h, x :: p, [], j, _, hl, _, _ => by simp at hl
  | h, x :: p, b :: s, 0, hp, hl, _, e => by
    simp only [List.set_cons_zero, dfoldUp] at e
    have := dfoldUp_inj (dup_U _ _ _) (dup_U _ _ _) p s e
    simpa using dup_inj_o hv (hp x (by simp)) this
  | h, x :: p, b :: s, j + 1, hp, hl, hj, e => by
    simp only [List.set_cons_succ, dfoldUp] at e
    have := dfoldUp_set hv (dup h x b) p s j (fun y hy => hp y (by simp [hy])) (by simpa using hl) (by simpa using hj) e
    simpa using this
theorem Us_of_wf {l : List Int} (h : ∀ z ∈ l, (Lit.int .u64 z).wf = true) : Us l := fun z hz => by
  have := h z hz
  simp only [Lit.wf, Bool.and_eq_true, decide_eq_true_eq] at this
  have hmin : IntKind.u64.min = 0 := rfl
  have hmax : IntKind.u64.max = 18446744073709551615 := rfl
  unfold U; omega
end Go.Proofs.Ytlikefnngkokhaa
