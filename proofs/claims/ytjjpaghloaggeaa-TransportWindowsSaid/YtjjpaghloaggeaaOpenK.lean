/- Arguments opened for the second engine: slices of numbers, slices of slices of numbers. -/
import Derived.Test.YtjjpaghloaggeaaOpen
import Derived.Test.YtjjpaghloaggeaaRange
import Derived.Deep.Matrix
set_option linter.unusedVariables false
set_option linter.unusedSimpArgs false
namespace Go.Proofs.Ytjjpaghloaggeaa
open Go.ChangeShapes Go.WideShapes Go.ChangeAt Go.RowKit
theorem inK_of_wf {k : IntKind} {z : Int} (h : (Lit.int k z).wf = true) : InK k z := by
  cases k <;> simp [Lit.wf, IntKind.min, IntKind.max, IntKind.signed, IntKind.bits, InK] at h ⊢ <;> omega
theorem imOf_cell (w : World) (a : Addr) : (imOf w).cell? a = w.cell? a := by
  simp only [Im.cell?, imOf, World.cell?]
  cases w.heap[a.block]? with
  | none => rfl
  | some o => cases o <;> rfl
theorem spot_none {w : World} {a : Addr} {v : Value} (h : w.cell? a = some v) : a.spot = none := by
  simp only [World.cell?] at h
  split at h
  · split at h
    · cases h
    · rename_i hs; simpa using hs
  · cases h
theorem els_of_rd {q : IntKind} {w : World} {A : Option Addr} {xs : List Int} (h : Rd w q A xs) (hk : ∀ x ∈ xs, InK q x) : Els (kInt q) (imOf w) A xs := by
  refine ⟨h.1, fun hn => ?_⟩
  obtain ⟨ad, e, hc⟩ := h.2 hn
  have hs := spot_none (hc 0 hn)
  rw [add_zero] at hs
  obtain ⟨b, o, sp⟩ := ad
  simp only at hs
  subst hs
  refine ⟨b, o, e, fun j x hj => ?_⟩
  obtain ⟨hjl, hx⟩ := List.getElem?_eq_some_iff.1 hj
  refine ⟨[.int q x], ⟨rfl, hk x (hx ▸ List.getElem_mem hjl)⟩, fun i u hu => ?_⟩
  have h1 := hc j hjl
  rw [add_plain] at h1
  match i, hu with
  | 0, hu =>
    simp at hu
    subst hu
    rw [imOf_cell]
    show w.cell? ⟨b, o + j * 1 + 0, none⟩ = _
    rw [show o + j * 1 + 0 = o + j by omega, h1]
    simp [List.getD, hj]
  | i + 1, hu => simp at hu
variable {H : Type} {enc : TypeId × Value → H} {P : Program} {w : World} {base base' : Nat} {held : Bool} {r : Reach}
/-- A slice of slices of whole numbers. -/
theorem open_sls {t e q : Nat} {k : IntKind} {v : Value} {d : DataW H} {p : List MemPlace} (ht : P.underlying t = some (.slice e)) (he : P.underlying e = some (.slice q)) (hq : P.underlying q = some (.int k)) (hce : P.cellsOf e = 1) (hcq : P.cellsOf q = 1)
    (hok : Value.okWide P w r base' t v) (h : DataW.Trod enc P w base (fun _ => true) held t v d p) :
    ∃ (A : Option Addr) (l : List (List Int)) (c : Nat), v = .slice A l.length c ∧ l.length ≤ c ∧ Els (kSl (kInt k)) (imOf w) A l := by
  obtain ⟨a0, len, cap, rfl⟩ := okWide_slice ht hok
  obtain ⟨fuel, hf⟩ := h
  rcases Go.Deep.open_int_rows ht he hq hce hcq hf with ⟨hcs, _⟩ | ⟨a, len', cap', A, L, C, Z, hcs, _, hl, hm, _, hrow⟩
  · simp [Value.cells] at hcs
    obtain ⟨rfl, rfl, rfl⟩ := hcs
    exact ⟨none, [], 0, rfl, by simp, Els.nil _ _ _⟩
  · simp [Value.cells] at hcs
    obtain ⟨rfl, rfl, rfl⟩ := hcs
    refine ⟨some a, (List.range len).map fun r => (Z r).take (L r), cap, by simp, by simpa using hl, by simp; unfold maxLen at hm; omega, fun hn => ?_⟩
    simp only [List.length_map, List.length_range] at hn
    have hs := spot_none (hrow 0 (by omega)).1
    rw [add_zero] at hs
    obtain ⟨b, o, sp⟩ := a
    simp only at hs
    subst hs
    refine ⟨b, o, rfl, fun j x hj => ?_⟩
    obtain ⟨hjl, hx⟩ := List.getElem?_eq_some_iff.1 hj
    simp only [List.length_map, List.length_range] at hjl
    simp only [List.getElem_map, List.getElem_range] at hx
    obtain ⟨h1, h2, h3, h4, h5, h6, h7⟩ := hrow j (by omega)
    rw [add_plain] at h1
    have hxl : x.length = L j := by rw [← hx]; simp; omega
    refine ⟨[.slice (A j) (L j) (C j)], ⟨A j, C j, by rw [hxl], by rw [hxl]; exact h2, ?_⟩, fun i u hu => ?_⟩
    · refine els_of_rd ⟨by rw [hxl]; unfold maxLen at h3; omega, fun hn2 => ?_⟩ (fun z hz => inK_of_wf (h5 z (List.mem_of_mem_take (hx ▸ hz))))
      cases hA : A j with
      | none => have := h6 hA; omega
      | some a' =>
        refine ⟨a', rfl, fun i hi => ?_⟩
        rw [(h7 a' hA).2 i (by omega), ← hx]
        simp [List.getD, List.getElem?_take, show i < L j by omega]
    · match i, hu with
      | 0, hu =>
        simp at hu
        subst hu
        rw [imOf_cell]
        show w.cell? ⟨b, o + j * 1 + 0, none⟩ = _
        rw [show o + j * 1 + 0 = o + j by omega]
        exact h1
      | i + 1, hu => simp at hu
end Go.Proofs.Ytjjpaghloaggeaa
