/- The digest's contracts, as the walk takes them. -/
import Derived.Test.YtjjpaghloaggeaaDig0
import Derived.Test.YtjjpaghloaggeaaStep
set_option linter.unusedVariables false
set_option linter.unusedSimpArgs false
namespace Go.Proofs.Ytjjpaghloaggeaa
open Go.RowKit
theorem Els.rd {q : IntKind} {I : Im} {w : World} {A : Option Addr} {l : List Int} (hS : Sat I w) (h : Els (kInt q) I A l) : Rd w q A l := by
  refine ⟨h.1, fun hn => ?_⟩
  obtain ⟨b, o, rfl⟩ := h.form hn
  refine ⟨_, rfl, fun j hj => ?_⟩
  have := hS.cell (h.num hj).1
  rw [Nat.mul_one] at this
  rw [add_plain, this]
  simp [List.getElem?_eq_getElem hj]
theorem Ret.ofCalls {P : Program} {f : FuncId} {args : List Value} {w : World} {v : Value} (h : Calls P f args.toArray w fun e w' => e = .returned v ∧ Gr w w') : Ret P f args w (fun u w' => u = v ∧ Gr w w') := Calls.mono h fun e w' h => ⟨v, h.1, rfl, h.2⟩
theorem Ret.ofCalls' {P : Program} {f : FuncId} {args : List Value} {w : World} {v : Value} (h : Calls P f args.toArray w fun e w' => e = .returned v ∧ w = w') : Ret P f args w (fun u w' => u = v ∧ Gr w w') := Calls.mono h fun e w' h => ⟨v, h.1, rfl, h.2 ▸ Gr.refl w⟩
theorem words_ret {A : Option Addr} {l : List Int} {c : Nat} {I : Im} {w : World} (hS : Sat I w) (h : Els (kInt .i64) I A l) : Ret Try.prog 61 [.slice A l.length c] w (fun v w' => v = .int .u64 (dwords l) ∧ Gr w w') := Ret.ofCalls (words_any A l c w (h.rd hS))
theorem tag_ret {key : Int} {A : Option Addr} {l : List Int} {c : Nat} {I : Im} {w : World} (hS : Sat I w) (h : Els (kInt .i64) I A l) : Ret Try.prog 59 [.int .u64 key, .slice A l.length c] w (fun v w' => v = .int .u64 (dtag key l) ∧ Gr w w') := Ret.ofCalls (tag_any key A l c w (h.rd hS))
/-- The same where the length is written as a number. -/
theorem tag_ret' {key : Int} {A : Option Addr} {l : List Int} {n c : Nat} {I : Im} {w : World} (hS : Sat I w) (h : Els (kInt .i64) I A l) (hn : l.length = n) : Ret Try.prog 59 [.int .u64 key, .slice A n c] w (fun v w' => v = .int .u64 (dtag key l) ∧ Gr w w') := by subst hn; exact tag_ret hS h
theorem InK.u64 (n : Int) : InK .u64 (u64 n) := inK_wrap .u64 n
theorem dtag_inK (key : Int) (l : List Int) : InK .u64 (dtag key l) := by
  have := dstep_range key (dwords l)
  simp only [InK, dtag]; omega
end Go.Proofs.Ytjjpaghloaggeaa
