/- The step of the digest, as a plain function on integers. -/
import Derived.RowKit
set_option linter.unusedVariables false
set_option linter.unusedSimpArgs false
namespace Go.Proofs.Ytjjpaghloaggeaa
open Go.RowKit

/-- The document's Step. -/
def dstep (h x : Int) : Int := IntKind.u64.wrap (Go.bits .xor .u64 (IntKind.u64.wrap (Go.bits .xor .u64 h x * 15485907386658061715)) (IntKind.u64.wrap (Go.bits .xor .u64 h x * 15485907386658061715) / 4294967296) * 11562461410679940143)
def dfold (h : Int) (l : List Int) : Int := l.foldl dstep h
theorem dfold_snoc (h : Int) (l : List Int) (x : Int) : dfold h (l ++ [x]) = dstep (dfold h l) x := by simp [dfold]
theorem dfold_nil (h : Int) : dfold h [] = h := rfl
/-- An int as 64 bits. -/
def u64 (n : Int) : Int := IntKind.u64.wrap n
def dwords (l : List Int) : Int := dstep (dfold 512970876019 (l.map u64)) l.length
def djoin (a b : Int) : Int := dstep (dstep 1852793957 a) b
def dtag (key : Int) (l : List Int) : Int := dstep key (dwords l)
theorem take_snoc' {α : Type} (l : List α) (k : Nat) (h : k < l.length) : l.take (k + 1) = l.take k ++ [l[k]] := by
  rw [List.take_succ_eq_append_getElem h]
theorem dfold_take (h : Int) (l : List Int) (k : Nat) (hk : k < l.length) : dfold h (l.take (k + 1)) = dstep (dfold h (l.take k)) l[k] := by
  rw [take_snoc' l k hk, dfold_snoc]
theorem dfold_take_u64 (h : Int) (l : List Int) (k : Nat) (hk : k < l.length) : dfold h ((l.take (k + 1)).map u64) = dstep (dfold h ((l.take k).map u64)) (u64 l[k]) := by
  rw [take_snoc' l k hk, List.map_append, List.map_cons, List.map_nil, dfold_snoc]
theorem wrapu_eq (n : Int) : IntKind.u64.wrap n = n % 18446744073709551616 := by
  simp [IntKind.wrap, IntKind.bits, IntKind.signed]
theorem wrapu_range (n : Int) : 0 ≤ IntKind.u64.wrap n ∧ IntKind.u64.wrap n < 18446744073709551616 := by
  rw [wrapu_eq]; omega
theorem u64_range (n : Int) : 0 ≤ u64 n ∧ u64 n < 18446744073709551616 := wrapu_range n
theorem dstep_range (h x : Int) : 0 ≤ dstep h x ∧ dstep h x < 18446744073709551616 := wrapu_range _
end Go.Proofs.Ytjjpaghloaggeaa
