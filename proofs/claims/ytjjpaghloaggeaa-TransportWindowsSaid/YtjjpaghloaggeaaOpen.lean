/- Arguments opened: arrays and slices of whole numbers. -/
import Derived.Test.YtjjpaghloaggeaaBase
import Derived.ProofKit
import Derived.OpenShut
import Derived.ChangeOld
import Derived.Below
import Derived.SizedLaws
set_option linter.unusedVariables false
set_option linter.unusedSimpArgs false
namespace Go.Proofs.Ytjjpaghloaggeaa
open Go.ChangeShapes Go.WideShapes Go.ChangeAt Go.RowKit
variable {H : Type} {enc : TypeId × Value → H} {P : Program} {w : World} {base base' : Nat} {spare : Nat → Bool} {held : Bool} {r : Reach}
/-- An array of whole numbers, by value. -/
theorem open_arr {n t e : Nat} {k : IntKind} {v : Value} {d : DataW H} {p : List MemPlace} (ht : P.underlying t = some (.array n e)) (he : P.underlying e = some (.int k)) (hce : P.cellsOf e = 1) (hct : P.cellsOf t = n)
    (hok : Value.okWide P w r base' t v) (h : DataW.Trod enc P w base spare held t v d p) :
    ∃ zs : List Int, v = .agg (ints k zs).toArray ∧ zs.length = n ∧ ∀ z ∈ zs, (Lit.int k z).wf = true := by
  unfold Value.okWide at hok
  rw [ht] at hok
  obtain ⟨cs, rfl, hs, _⟩ := hok
  obtain ⟨fuel, hf⟩ := h
  obtain ⟨xs, m, rfl, _, hl, hx, hi⟩ := DataW.trod_array ht hf
  have hcells : (Value.agg cs).cells = cs := rfl
  rw [hcells] at hi hl
  have one : ∀ i (hi' : i < cs.toList.length), ∃ z, cs.toList[i] = Value.int k z ∧ (Lit.int k z).wf = true := by
    intro i hi'
    have hin : i < n := by rw [hct] at hl; omega
    have h1 := hi i hin
    rw [hce, Nat.mul_one] at h1
    have h2 : (cs.toList.drop i).take 1 = [cs.toList[i]] := by
      rw [List.take_one, List.head?_drop, List.getElem?_eq_getElem hi']; rfl
    rw [h2, List.getElem?_eq_getElem (by omega)] at h1
    obtain ⟨a, e0, e1, wa⟩ := DataW.trod_int he h1
    simp at e0
    exact ⟨a, e0, wa⟩
  have all : ∀ l : List Value, (∀ i (hi' : i < l.length), ∃ z, l[i] = Value.int k z ∧ (Lit.int k z).wf = true) → ∃ zs : List Int, l = ints k zs ∧ ∀ z ∈ zs, (Lit.int k z).wf = true := by
    intro l
    induction l with
    | nil => intro _; exact ⟨[], rfl, by simp⟩
    | cons x l ih =>
      intro hh
      obtain ⟨z, hz, hw⟩ := hh 0 (by simp)
      obtain ⟨zs, hzs, hws⟩ := ih (fun i hi' => by have := hh (i + 1) (by simp; omega); simpa using this)
      refine ⟨z :: zs, ?_, ?_⟩
      · simp at hz; rw [hz, hzs]; rfl
      · intro y hy
        rcases List.mem_cons.1 hy with rfl | hy
        · exact hw
        · exact hws y hy
  obtain ⟨zs, hzs, hws⟩ := all cs.toList one
  refine ⟨zs, ?_, ?_, hws⟩
  · rw [← hzs]
  · have : (ints k zs).length = n := by rw [← hzs, hl, hct]
    rw [ints_length] at this; exact this
/-- A slice of whole numbers. -/
theorem open_sl {t e : Nat} {k : IntKind} {v : Value} {d : DataW H} {p : List MemPlace} (ht : P.underlying t = some (.slice e)) (he : P.underlying e = some (.int k)) (hce : P.cellsOf e = 1)
    (hok : Value.okWide P w r base' t v) (h : DataW.Trod enc P w base spare held t v d p) :
    ∃ (A : Option Addr) (l : List Int) (c : Nat), v = .slice A l.length c ∧ l.length ≤ c ∧ Rd w k A l ∧ ∀ z ∈ l, (Lit.int k z).wf = true := by
  obtain ⟨a0, len, cap, rfl⟩ := okWide_slice ht hok
  obtain ⟨fuel, hf⟩ := h
  rcases open_ints ht he hce hf with ⟨hcs, _⟩ | ⟨x, l, c, zs, hcs, _, hl, hm, hz, _, hcell, hwz⟩
  · simp [Value.cells] at hcs
    obtain ⟨rfl, rfl, rfl⟩ := hcs
    exact ⟨none, [], 0, rfl, by simp, Rd.nil _ _ _, by simp⟩
  · simp [Value.cells] at hcs
    obtain ⟨rfl, rfl, rfl⟩ := hcs
    have hzl0 : len ≤ zs.length := by rw [hz]; split <;> omega
    have hzl : (zs.take len).length = len := by simp; omega
    refine ⟨some x, zs.take len, cap, by rw [hzl], by rw [hzl]; exact hl, ⟨by rw [hzl]; unfold maxLen at hm; omega, fun _ => ⟨x, rfl, fun j hj => ?_⟩⟩, fun z hz' => hwz z (List.mem_of_mem_take hz')⟩
    rw [hzl] at hj
    rw [hcell j (by omega)]
    simp [List.getElem?_take, hj]
theorem places_lt {t : TypeId} {v : Value} {d : DataW H} {p : List MemPlace} (h : DataW.Trod enc P w base spare held t v d p) : ∀ x ∈ p, x.block < w.heap.size := by
  obtain ⟨m, hm⟩ := h
  exact DataW.trod_lt m _ _ _ hm
end Go.Proofs.Ytjjpaghloaggeaa
