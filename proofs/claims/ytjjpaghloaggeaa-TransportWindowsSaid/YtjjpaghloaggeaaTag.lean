/- Tags of packets tell their numbers apart; the fixed examples; no program. -/
import Derived.Test.YtjjpaghloaggeaaLink
import Derived.Test.YtjjpaghloaggeaaDigInj
set_option linter.unusedVariables false
set_option linter.unusedSimpArgs false
namespace Go.Proofs.Ytjjpaghloaggeaa
open Go.RowKit
theorem dfold_U : ∀ (l : List Int) (h : Int), U h → U (dfold h l)
  | [], h, hU => hU
  | x :: l, h, hU => dfold_U l _ (dstep_U _ _)
theorem dfold_left : ∀ (l : List Int) (g h : Int), U g → U h → dfold g l = dfold h l → g = h
  | [], _, _, _, _, e => e
  | x :: l, g, h, hg, hh, e => dstep_left hg hh (dfold_left l _ _ (dstep_U _ _) (dstep_U _ _) e)
theorem dfold_set : ∀ (l : List Int) (h : Int) (j : Nat) (y : Int) (hj : j < l.length), U h → (∀ x ∈ l, U x) → U y → l[j] ≠ y → dfold h (l.set j y) ≠ dfold h l
  | x :: l, h, 0, y, _, hU, hl, hy, hne => fun e => hne (dstep_right hy (hl x (by simp)) (dfold_left l _ _ (dstep_U _ _) (dstep_U _ _) e)).symm
  | x :: l, h, j + 1, y, hj, hU, hl, hy, hne => dfold_set l _ j y (by simpa using hj) (dstep_U _ _) (fun z hz => hl z (by simp [hz])) hy (by simpa using hne)
theorem i64_u64 {x : Int} (h : InK .i64 x) : IntKind.i64.wrap (u64 x) = x := by
  simp only [InK] at h
  unfold u64
  rw [wrapu_eq]
  simp [IntKind.wrap, IntKind.bits, IntKind.signed]
  omega
theorem set_same {l : List Int} {i : Nat} {x : Int} (hi : i < l.length) (h : l[i] = x) : l.set i x = l := by
  rw [← h]; simp
theorem dwords_one {l : List Int} {i : Nat} {x : Int} (hl : ∀ y ∈ l, InK .i64 y) (hx : InK .i64 x) (hi : i < l.length) : dwords l = dwords (l.set i x) ↔ l[i] = x := by
  constructor
  · intro e
    unfold dwords at e
    rw [List.length_set] at e
    have e1 := dstep_left (dfold_U _ _ ⟨by omega, by omega⟩) (dfold_U _ _ ⟨by omega, by omega⟩) e
    rw [List.map_set] at e1
    by_cases h : l[i] = x
    · exact h
    · refine absurd e1.symm (dfold_set _ _ i (u64 x) (by simpa using hi) ⟨by omega, by omega⟩ (fun y hy => ?_) (u64_range _) (fun e2 => h ?_))
      · obtain ⟨z, _, rfl⟩ := List.mem_map.1 hy
        exact u64_range _
      · rw [List.getElem_map] at e2
        rw [← i64_u64 (hl _ (List.getElem_mem hi)), ← i64_u64 hx, e2]
  · intro h; rw [set_same hi h]
theorem dtag_words {k : Int} {l m : List Int} : dtag k l = dtag k m ↔ dwords l = dwords m :=
  ⟨fun e => dstep_right (dstep_U _ _) (dstep_U _ _) e, fun e => by unfold dtag; rw [e]⟩
theorem dtag_keys {k g : Int} {l : List Int} (hk : U k) (hg : U g) : dtag k l = dtag g l ↔ k = g := ⟨fun e => dstep_left hk hg e, fun e => by rw [e]⟩
theorem key1_8 : key1 8 = 9 := by decide
theorem key1_9 : key1 9 = 8 := by decide
@[reducible] def exA : Lk := ⟨8, [], 0, [], 0⟩
@[reducible] def exB : Lk := ⟨9, [], 0, [], 0⟩
@[reducible] def exS : Lk := ⟨8, [[7]], 0, [], 0⟩
/-- The two tags are never worked out. -/
theorem exT_ex : ∃ t : Int × Int, t.1 = dtag 9 [0, 0, 1, 7] ∧ t.2 = dtag 8 [-1, 1, 0] := ⟨(_, _), rfl, rfl⟩
noncomputable def exT9 : Int := exT_ex.choose.1
noncomputable def exT8 : Int := exT_ex.choose.2
theorem exT9_eq : exT9 = dtag 9 [0, 0, 1, 7] := exT_ex.choose_spec.1
theorem exT8_eq : exT8 = dtag 8 [-1, 1, 0] := exT_ex.choose_spec.2
theorem exT9_in : InK .u64 exT9 := by rw [exT9_eq]; exact dtag_inK _ _
theorem exT8_in : InK .u64 exT8 := by rw [exT8_eq]; exact dtag_inK _ _
@[reducible] noncomputable def exP : Pk := ⟨0, 0, [7], exT9⟩
@[reducible] def exR : Lk := ⟨9, [], 0, [[7]], 1⟩
@[reducible] noncomputable def exK : Pk := ⟨-1, 1, [], exT8⟩
@[reducible] def exC : Lk := ⟨8, [], 1, [], 0⟩
theorem ex_valid : LkV exA ∧ LkV exB ∧ LkV exS ∧ LkV exR ∧ LkV exC := by
  refine ⟨⟨?_, ?_, ?_, ?_, ?_, ?_, ?_, ?_⟩, ⟨?_, ?_, ?_, ?_, ?_, ?_, ?_, ?_⟩, ⟨?_, ?_, ?_, ?_, ?_, ?_, ?_, ?_⟩, ⟨?_, ?_, ?_, ?_, ?_, ?_, ?_, ?_⟩, ⟨?_, ?_, ?_, ?_, ?_, ?_, ?_, ?_⟩⟩ <;> simp
theorem ex_s : lsend exA [7] = exS ∧ lsendE exA [7] = 0 := by
  have h : ¬ sendE exA [7] := by unfold sendE; simp
  exact ⟨by unfold lsend; rw [if_neg h]; rfl, by unfold lsendE; rw [if_neg h]⟩
theorem ex_p : lpacket exS 0 = exP ∧ lpacketE exS 0 = 0 := by
  have h : ¬ packE exS 0 := by unfold packE; simp
  refine ⟨?_, by unfold lpacketE; rw [if_neg h]⟩
  unfold lpacket
  rw [if_neg h]
  unfold lsigned
  rw [key1_8, show exP = ⟨0, 0, [7], dtag 9 [0, 0, 1, 7]⟩ from by rw [← exT9_eq]]
  rfl
theorem ex_r : lrec exB exP = exR ∧ lrecE exB exP = 0 := by
  have h : lacc exB exP := ⟨by simp, exT9_eq⟩
  refine ⟨?_, by unfold lrecE; rw [if_pos h]⟩
  unfold lrec
  rw [if_pos h]
  unfold lrec1
  rw [if_neg (by simp)]
  unfold lrec2
  rw [if_pos (by simp)]
  rfl
theorem ex_k : lsigned exR (-1) [] = exK := by
  unfold lsigned
  rw [key1_9, show exK = ⟨-1, 1, [], dtag 8 [-1, 1, 0]⟩ from by rw [← exT8_eq]]
  rfl
theorem ex_c : lrec exS exK = exC ∧ lrecE exS exK = 0 := by
  have h : lacc exS exK := ⟨by simp, exT8_eq⟩
  refine ⟨?_, by unfold lrecE; rw [if_pos h]⟩
  unfold lrec
  rw [if_pos h]
  unfold lrec1
  rw [if_pos (by simp)]
  unfold lrec2
  rw [if_neg (by simp)]
  rfl
theorem ex_no : lpacketE exA 0 = 4 ∧ ltakeE exA = 4 ∧ lrecE exA exP = 500 := by
  refine ⟨by unfold lpacketE; rw [if_pos (by unfold packE; simp)], by unfold ltakeE; simp, ?_⟩
  unfold lrecE
  rw [if_neg]
  rintro ⟨_, h⟩
  have : dtag 9 [0, 0, 1, 7] = dtag 8 [0, 0, 1, 7] := exT9_eq.symm.trans h
  have := (dtag_keys ⟨by omega, by omega⟩ ⟨by omega, by omega⟩).1 this
  omega
theorem ex_at (J : Im) : LkAt J exA none 0 none 0 ∧ LkAt J exB none 0 none 0 :=
  ⟨⟨by simp [InK], by simp [InK], by simp [InK], Nat.le_refl _, Els.nil _ _ _, Nat.le_refl _, Els.nil _ _ _⟩, ⟨by simp [InK], by simp [InK], by simp [InK], Nat.le_refl _, Els.nil _ _ _, Nat.le_refl _, Els.nil _ _ _⟩⟩
end Go.Proofs.Ytjjpaghloaggeaa
