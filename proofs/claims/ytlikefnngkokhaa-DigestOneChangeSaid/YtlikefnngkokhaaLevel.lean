/- Levels of a tree, words of bytes: plain data; no program. -/
import Derived.Test.YtlikefnngkokhaaSidesLaw
import Derived.Test.YtlikefnngkokhaaExPure
import Derived.Test.YtlikefnngkokhaaJouPure
set_option linter.unusedVariables false
set_option linter.unusedSimpArgs false
namespace Go.Proofs.Ytlikefnngkokhaa
open Go.RowKit
noncomputable def dlevel : List Int → List Int
  | a :: b :: r => djoin a b :: dlevel r
  | [a] => [a]
  | [] => []
theorem dlevel_len : ∀ (n : Nat) (l : List Int), l.length ≤ n → (dlevel l).length = (l.length + 1) / 2
  | _, [], _ => by simp [dlevel]
  | _, [a], _ => by simp [dlevel]
  | 0, a :: b :: r, h => by simp at h
  | n + 1, a :: b :: r, h => by
    simp only [dlevel, List.length_cons]
    rw [dlevel_len n r (by simp at h; omega)]; omega
theorem dlevel_append : ∀ (n : Nat) (a b : List Int), a.length ≤ n → a.length % 2 = 0 → dlevel (a ++ b) = dlevel a ++ dlevel b
  | _, [], b, _, _ => rfl
  | _, [x], b, _, h => by simp at h
  | 0, x :: y :: r, b, h, _ => by simp at h
  | n + 1, x :: y :: r, b, h, h2 => by
    simp only [List.cons_append, dlevel]
    rw [dlevel_append n r b (by simp at h; omega) (by simp at h2; omega)]
theorem dlevel_take {l : List Int} {k : Nat} (h : 2 * k ≤ l.length) : (dlevel l).take k = dlevel (l.take (2 * k)) := by
  have e := dlevel_append _ (l.take (2 * k)) (l.drop (2 * k)) (Nat.le_refl _) (by simp; omega)
  rw [List.take_append_drop] at e
  have hl := dlevel_len _ (l.take (2 * k)) (Nat.le_refl _)
  rw [e, List.take_append_of_le_length (by rw [hl]; simp; omega), List.take_of_length_le (by rw [hl]; simp; omega)]
theorem dlevel_drop {l : List Int} {k : Nat} (h : 2 * k ≤ l.length) : (dlevel l).drop k = dlevel (l.drop (2 * k)) := by
  have e := dlevel_append _ (l.take (2 * k)) (l.drop (2 * k)) (Nat.le_refl _) (by simp; omega)
  rw [List.take_append_drop] at e
  have hl := dlevel_len _ (l.take (2 * k)) (Nat.le_refl _)
  rw [e, List.drop_append, List.drop_eq_nil_of_le (by rw [hl]; simp; omega), List.nil_append, hl]
  have : k - ((List.take (2 * k) l).length + 1) / 2 = 0 := by simp; omega
  rw [this, List.drop_zero]
theorem droot_level : ∀ (n : Nat) (l : List Int), l.length ≤ n → 2 ≤ l.length → droot (dlevel l) = droot l := by
  intro n
  induction n with
  | zero => intro l h h2; omega
  | succ n ih =>
    intro l hn h2
    by_cases h3 : l.length = 2
    · match l, h3 with
      | [a, b], _ => rw [ex_root2]; simp only [dlevel, droot_one]
    · obtain ⟨a, b, c⟩ := dhalf_spec h2
      have e := dhalf_double (n := l.length) (by omega)
      have hl := dlevel_len _ l (Nat.le_refl _)
      obtain ⟨a', b', c'⟩ := dhalf_spec (n := (l.length + 1) / 2) (by omega)
      rw [droot_two (l := dlevel l) (by omega), droot_two h2, hl, e]
      obtain ⟨k, hk⟩ : ∃ k, k = dhalf ((l.length + 1) / 2) := ⟨_, rfl⟩
      rw [← hk] at e a' b' c' ⊢
      rw [dlevel_take (by omega), dlevel_drop (by omega), ih (l.take (2 * k)) (by simp; omega) (by simp; omega)]
      congr 1
      by_cases h1 : l.length - 2 * k = 1
      · obtain ⟨x, hx⟩ := List.length_eq_one_iff.1 (show (l.drop (2 * k)).length = 1 by simp; omega)
        rw [hx]; rfl
      · exact ih (l.drop (2 * k)) (by simp; omega) (by simp; omega)
theorem droot_level' {l : List Int} (h : 1 ≤ l.length) : droot (dlevel l) = droot l := by
  by_cases h2 : 2 ≤ l.length
  · exact droot_level _ l (Nat.le_refl _) h2
  · obtain ⟨x, hx⟩ := List.length_eq_one_iff.1 (show l.length = 1 by omega)
    rw [hx]; rfl
/-- The digest of the path on the leaves' level. -/
def pathStep (l : List Int) (i : Nat) : List Int := if i % 2 = 1 then [l.getD (i - 1) 0] else if i + 1 < l.length then [l.getD (i + 1) 0] else []
theorem dpath_level : ∀ (n : Nat) (l : List Int) (i : Nat), l.length ≤ n → 2 ≤ l.length → i < l.length → dpath l i = pathStep l i ++ dpath (dlevel l) (i / 2) := by
  intro n
  induction n with
  | zero => intro l i h h2; omega
  | succ n ih =>
    intro l i hn h2 hi
    have hl := dlevel_len _ l (Nat.le_refl _)
    by_cases h3 : l.length = 2
    · have e2 : dhalf 2 = 1 := half2
      have hd : dpath (dlevel l) (i / 2) = [] := dpath_one (by omega) _
      rw [hd]
      match l, h3 with
      | [a, b], _ =>
        by_cases hk : i < 1
        · obtain rfl : i = 0 := by omega
          rw [dpath_left (by simp) (by simp [half2])]
          simp only [List.length_cons, List.length_nil, Nat.zero_add, Nat.reduceAdd, half2, List.take, List.drop, droot_one]
          rw [dpath_one (by simp)]
          simp [pathStep]
        · obtain rfl : i = 1 := by simp at hi; omega
          rw [dpath_right (by simp) (by simp [half2])]
          simp only [List.length_cons, List.length_nil, Nat.zero_add, Nat.reduceAdd, half2, List.take, List.drop, droot_one]
          rw [dpath_one (by simp)]
          simp [pathStep]
    · obtain ⟨a, b, c⟩ := dhalf_spec h2
      have e := dhalf_double (n := l.length) (by omega)
      obtain ⟨a', b', c'⟩ := dhalf_spec (n := (l.length + 1) / 2) (by omega)
      obtain ⟨k, hk⟩ : ∃ k, k = dhalf ((l.length + 1) / 2) := ⟨_, rfl⟩
      rw [← hk] at e a' b' c'
      have ht : (dlevel l).take k = dlevel (l.take (2 * k)) := dlevel_take (by omega)
      have hd : (dlevel l).drop k = dlevel (l.drop (2 * k)) := dlevel_drop (by omega)
      by_cases hi2 : i < 2 * k
      · rw [dpath_left h2 (by omega), dpath_left (l := dlevel l) (by omega) (by rw [hl, ← hk]; omega), hl, ← hk, e, ht, hd, ih (l.take (2 * k)) i (by simp; omega) (by simp; omega) (by simp; omega), droot_level' (l := l.drop (2 * k)) (by simp; omega)]
        have e3 : pathStep (l.take (2 * k)) i = pathStep l i := by
          unfold pathStep
          by_cases ho : i % 2 = 1
          · rw [if_pos ho, if_pos ho]
            simp [List.getElem?_take, show i - 1 < 2 * k by omega]
          · rw [if_neg ho, if_neg ho, if_pos (by simp; omega), if_pos (by omega)]
            simp [List.getElem?_take, show i + 1 < 2 * k by omega]
        rw [e3, List.append_assoc]
      · rw [dpath_right h2 (by omega), dpath_right (l := dlevel l) (by omega) (by rw [hl, ← hk]; omega), hl, ← hk, e, ht, hd, droot_level' (l := l.take (2 * k)) (by simp; omega)]
        have e2 : i / 2 - k = (i - 2 * k) / 2 := by omega
        have e3 : pathStep (l.drop (2 * k)) (i - 2 * k) = pathStep l i := by
          unfold pathStep
          by_cases ho : i % 2 = 1
          · rw [if_pos (by omega), if_pos ho]
            simp [List.getElem?_drop, show 2 * k + (i - 2 * k - 1) = i - 1 by omega]
          · rw [if_neg (by omega), if_neg ho]
            by_cases hl2 : i + 1 < l.length
            · rw [if_pos (by simp; omega), if_pos hl2]
              simp [List.getElem?_drop, show 2 * k + (i - 2 * k + 1) = i + 1 by omega]
            · rw [if_neg (by simp; omega), if_neg hl2]
        by_cases h1 : l.length - 2 * k = 1
        · rw [dpath_one (l := l.drop (2 * k)) (by simp; omega), dpath_one (l := dlevel (l.drop (2 * k))) (by rw [dlevel_len _ _ (Nat.le_refl _)]; simp; omega), ← e3]
          have : pathStep (l.drop (2 * k)) (i - 2 * k) = [] := by
            unfold pathStep
            rw [if_neg (by omega), if_neg (by simp; omega)]
          rw [this]; rfl
        · rw [ih (l.drop (2 * k)) (i - 2 * k) (by simp; omega) (by simp; omega) (by simp; omega), e2, e3, List.append_assoc]
/-! ### bytes -/
def dgroups (l : List Int) : List Int := if h : l = [] then [] else leSum (l.take 8) :: dgroups (l.drop 8)
termination_by l.length
decreasing_by have : l.length ≠ 0 := fun e => h (List.eq_nil_of_length_eq_zero e); simp; omega
theorem dgroups_nil : dgroups [] = [] := by rw [dgroups]; simp
theorem dgroups_cons {l : List Int} (h : 0 < l.length) : dgroups l = leSum (l.take 8) :: dgroups (l.drop 8) := by
  rw [dgroups, dif_neg (fun e => by rw [e] at h; simp at h)]
noncomputable def dbytes (l : List Int) : Int := dstep (dfold 422944466291 (dgroups l)) l.length
theorem leSum_step0 {l : List Int} (hB : isB l) {k : Nat} (h : k < l.length) (hk : k < 8) : ibits .or .u64 (leSum (l.take k)) (IntKind.u64.wrap (l[k] * 2 ^ min (8 * (k : Int)).toNat IntKind.u64.bits)) = leSum (l.take (k + 1)) := by
  have := leSum_step hB (at_ := 0) (k := k) (by omega) hk
  rw [show IntKind.u64.bits = 64 from rfl]
  simpa using this
theorem leSum8_U {l : List Int} (hB : isB l) {n : Nat} (hn : n ≤ 8) : U (leSum (l.take n)) := by
  have h1 := leSum_range _ (isB_take hB n)
  have h2 : (l.take n).length ≤ 8 := by simp; omega
  have h3 : (256 : Int) ^ (l.take n).length ≤ 256 ^ 8 := pow256_mono h2
  have h4 : (256 : Int) ^ 8 = 18446744073709551616 := rfl
  exact ⟨h1.1, by omega⟩
end Go.Proofs.Ytlikefnngkokhaa
