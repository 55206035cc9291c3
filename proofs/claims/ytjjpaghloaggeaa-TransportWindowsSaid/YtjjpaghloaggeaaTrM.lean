/- What receiving does to a link; no program. -/
import Derived.Test.YtjjpaghloaggeaaTag
set_option linter.unusedVariables false
set_option linter.unusedSimpArgs false
namespace Go.Proofs.Ytjjpaghloaggeaa
open Go.RowKit
/-- What an accepted packet does. -/
structure RecM (y : Lk) (p : Pk) (z : Lk) : Prop where
  key : z.key = y.key
  base : y.base ≤ z.base ∧ z.base - y.base ≤ y.out.length
  top : z.base + z.out.length = y.base + y.out.length
  out : z.out = y.out.drop (z.base - y.base).toNat
  mx : z.base = if y.base < p.ack then p.ack else y.base
  r : (z.rcv = y.rcv ∧ z.inn = y.inn ∧ ¬ (p.seq = y.rcv ∧ y.inn.length < 64 ∧ y.rcv < 1000000000)) ∨ (z.rcv = y.rcv + 1 ∧ z.inn = y.inn ++ [p.data] ∧ p.seq = y.rcv ∧ y.inn.length < 64 ∧ y.rcv < 1000000000)
  v : LkV z
theorem lrec_M {y : Lk} {p : Pk} (hv : LkV y) (ha : lacc y p) : RecM y p (lrec y p) := by
  have h1 := ha.1
  have hl : lrec y p = lrec2 (lrec1 y p) p := if_pos ha
  rw [hl]
  obtain ⟨yk, yo, yb, yi, yr⟩ := y
  have a1 := hv.o; have a2 := hv.i; have a3 := hv.b0; have a4 := hv.b1; have a5 := hv.r0; have a6 := hv.r1; have a7 := hv.so; have a8 := hv.si
  simp only at a1 a2 a3 a4 a5 a6 a7 a8 h1
  have e1 : ∃ b o, lrec1 ⟨yk, yo, yb, yi, yr⟩ p = ⟨yk, o, b, yi, yr⟩ ∧ yb ≤ b ∧ b - yb ≤ yo.length ∧ b + o.length = yb + yo.length ∧ o = yo.drop (b - yb).toNat ∧ b = (if yb < p.ack then p.ack else yb) := by
    unfold lrec1
    simp only
    by_cases h : yb < p.ack
    · rw [if_pos h]
      refine ⟨p.ack, yo.drop (p.ack - yb).toNat, rfl, by omega, by omega, ?_, rfl, by rw [if_pos h]⟩
      rw [List.length_drop]; omega
    · rw [if_neg h]
      exact ⟨yb, yo, rfl, by omega, by omega, rfl, by simp, by rw [if_neg h]⟩
  obtain ⟨b, o, e1, b1, b2, b3, b4, b5⟩ := e1
  rw [e1]
  have so : ∀ d ∈ o, d.length ≤ 256 := fun d hd => a7 d (by rw [b4] at hd; exact List.mem_of_mem_drop hd)
  unfold lrec2
  simp only
  by_cases h : p.seq = yr ∧ yi.length < 64 ∧ yr < 1000000000
  · rw [if_pos h]
    refine ⟨rfl, ⟨b1, b2⟩, b3, b4, b5, .inr ⟨rfl, rfl, h.1, h.2.1, h.2.2⟩, ⟨?_, ?_, ?_, ?_, ?_, ?_, so, ?_⟩⟩
    · dsimp only; omega
    · dsimp only; simp; omega
    · dsimp only; omega
    · dsimp only; omega
    · dsimp only; simp; omega
    · dsimp only; omega
    · intro d hd
      rcases List.mem_append.1 hd with hd | hd
      · exact a8 d hd
      · rw [List.mem_singleton.1 hd]; omega
  · rw [if_neg h]
    refine ⟨rfl, ⟨b1, b2⟩, b3, b4, b5, .inl ⟨rfl, rfl, h⟩, ⟨?_, a2, ?_, ?_, a5, a6, so, a8⟩⟩
    · dsimp only; omega
    · dsimp only; omega
    · dsimp only; omega
theorem lrecE_or (y : Lk) (p : Pk) : (lacc y p ∧ lrecE y p = 0) ∨ (¬ lacc y p ∧ lrecE y p = 500 ∧ lrec y p = lk0) := by
  by_cases h : lacc y p
  · exact .inl ⟨h, if_pos h⟩
  · exact .inr ⟨h, if_neg h, if_neg h⟩
end Go.Proofs.Ytjjpaghloaggeaa
