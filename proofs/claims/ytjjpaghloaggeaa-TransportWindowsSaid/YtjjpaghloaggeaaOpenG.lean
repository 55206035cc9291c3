/- Arguments opened, of whatever plain kinds: numbers, bools, slices, structs, arrays, nested. -/
import Derived.Test.YtjjpaghloaggeaaOpenK
import Derived.Test.YtjjpaghloaggeaaElem
set_option linter.unusedVariables false
set_option linter.unusedSimpArgs false
namespace Go.Proofs.Ytjjpaghloaggeaa
open Go.ChangeShapes Go.WideShapes Go.ChangeAt Go.RowKit
/-- n elements side by side. -/
def kVec {α : Type} (n : Nat) (d : Kd α) : Kd (List α) where
  n := n * d.n
  rep := fun I vs xs => Row d I vs xs ∧ xs.length = n
  up := fun hle ⟨h1, h2⟩ => ⟨h1.up hle, h2⟩
  len := fun ⟨h1, h2⟩ => by rw [h1.length, h2]
  one := fun ⟨h1, h2⟩ => h1.ones
section
variable {H : Type} {enc : TypeId × Value → H} {P : Program} {w : World} {base : Nat} {held : Bool}
/-- What is told of type t lies as d says. -/
def Opens {α : Type} (enc : TypeId × Value → H) (P : Program) (w : World) (base : Nat) (held : Bool) (t : TypeId) (d : Kd α) : Prop :=
  ∀ (fuel : Nat) cs x, DataW.trod enc P w base (fun _ => true) held fuel t cs = some x → ∃ y, d.rep (imOf w) cs y
theorem opens_int {t : TypeId} {q : IntKind} (ht : P.underlying t = some (.int q)) : Opens enc P w base held t (kInt q) := fun fuel cs x h => by
  obtain ⟨n, rfl, _, hw⟩ := DataW.trod_int ht h
  exact ⟨n, rfl, inK_of_wf hw⟩
theorem opens_bool {t : TypeId} (ht : P.underlying t = some .bool) : Opens enc P w base held t kBool := fun fuel cs x h => by
  obtain ⟨b, rfl, _⟩ := DataW.trod_bool ht h
  exact ⟨b, rfl⟩
theorem choose_list {α : Type} {R : Nat → α → Prop} : ∀ (n : Nat), (∀ i, i < n → ∃ y, R i y) → ∃ ys : List α, ys.length = n ∧ ∀ i y, ys[i]? = some y → R i y
  | 0, _ => ⟨[], rfl, fun i y h => by simp at h⟩
  | n + 1, h => by
    obtain ⟨ys, hl, hy⟩ := choose_list n (fun i hi => h i (by omega))
    obtain ⟨z, hz⟩ := h n (by omega)
    refine ⟨ys ++ [z], by simp [hl], fun i y hi => ?_⟩
    rcases Nat.lt_or_ge i ys.length with h1 | h1
    · rw [List.getElem?_append_left h1] at hi; exact hy i y hi
    · rw [List.getElem?_append_right h1] at hi
      have h2 : i - ys.length = 0 := by
        rcases Nat.eq_zero_or_pos (i - ys.length) with h3 | h3
        · exact h3
        · rw [List.getElem?_eq_none (by simp; omega)] at hi; cases hi
      rw [h2] at hi
      simp at hi
      subst hi
      rw [show i = n by omega]; exact hz
theorem opens_slice {α : Type} {d : Kd α} {t e : TypeId} (ht : P.underlying t = some (.slice e)) (hc : P.cellsOf e = d.n) (h0 : 0 < d.n) (he : Opens enc P w base held e d) : Opens enc P w base held t (kSl d) := fun fuel cs x h => by
  rcases DataW.trod_slice ht h with ⟨rfl, _⟩ | ⟨a, len, cap, elems, rest, n, _, rfl, _, hb, hl, hm, hlen, hel, _, _⟩
  · exact ⟨[], none, 0, rfl, Nat.le_refl _, Els.nil _ _ _⟩
  · have each : ∀ i, i < len → ∃ y, ∃ vs, d.rep (imOf w) vs y ∧ vs.length = d.n ∧ ∀ j, j < d.n → w.cell? ((a.add (i * d.n)).add j) = vs[j]? := by
      intro i hi
      have h1 := hel i hi
      rw [List.getElem?_eq_getElem (by omega), Option.bind_eq_some_iff, hc] at h1
      obtain ⟨vs, hvs, hy⟩ := h1
      obtain ⟨y, hy⟩ := he _ _ _ hy
      obtain ⟨_, h2, h3⟩ := World.cells?_some hvs
      exact ⟨y, vs, hy, h2, h3⟩
    obtain ⟨ys, hyl, hys⟩ := choose_list len each
    refine ⟨ys, some a, cap, by rw [hyl], by omega, by unfold maxLen at hm; omega, fun hn => ?_⟩
    obtain ⟨vs0, _, hv0, hc0⟩ := hys 0 (ys[0]'hn) (List.getElem?_eq_getElem hn)
    have hs := hc0 0 h0
    rw [List.getElem?_eq_getElem (by omega)] at hs
    have hs := spot_none hs
    rw [Nat.zero_mul, add_zero, add_zero] at hs
    obtain ⟨b, o, sp⟩ := a
    simp only at hs
    subst hs
    refine ⟨b, o, rfl, fun j x hj => ?_⟩
    obtain ⟨vs, hr, hvl, hcell⟩ := hys j x hj
    refine ⟨vs, hr, fun i u hu => ?_⟩
    have hi := (List.getElem?_eq_some_iff.1 hu).1
    have h4 := hcell i (by omega)
    rw [add_plain, add_plain, hu] at h4
    rw [imOf_cell]; exact h4
/-- The fields from an offset on. -/
def OpF {α : Type} (enc : TypeId × Value → H) (P : Program) (w : World) (base : Nat) (held : Bool) (fs : List Field) (off : Nat) (d : Kd α) : Prop :=
  ∀ (fuel : Nat) (cs : List Value), (∀ f ∈ fs, ∃ x, DataW.trod enc P w base (fun _ => true) held fuel f.type ((cs.drop f.offset).take (P.cellsOf f.type)) = some x) → ∃ y, d.rep (imOf w) ((cs.drop off).take d.n) y
theorem opF_one {α : Type} {d : Kd α} {f : Field} {off : Nat} (ho : f.offset = off) (hc : P.cellsOf f.type = d.n) (he : Opens enc P w base held f.type d) : OpF enc P w base held [f] off d := fun fuel cs h => by
  obtain ⟨x, hx⟩ := h f (by simp)
  rw [ho, hc] at hx
  exact he _ _ _ hx
theorem opF_cons {α β : Type} {d : Kd α} {ds : Kd β} {f : Field} {fs : List Field} {off : Nat} (ho : f.offset = off) (hc : P.cellsOf f.type = d.n) (he : Opens enc P w base held f.type d) (hs : OpF enc P w base held fs (off + d.n) ds) : OpF enc P w base held (f :: fs) off (kPair d ds) := fun fuel cs h => by
  obtain ⟨x, hx⟩ := h f (by simp)
  rw [ho, hc] at hx
  obtain ⟨y, hy⟩ := he _ _ _ hx
  obtain ⟨z, hz⟩ := hs fuel cs (fun g hg => h g (by simp [hg]))
  refine ⟨(y, z), _, _, ?_, hy, hz⟩
  show (cs.drop off).take (d.n + ds.n) = _
  rw [List.take_add, List.drop_drop]
theorem opens_struct {α : Type} {d : Kd α} {t : TypeId} {fs : Array Field} (ht : P.underlying t = some (.struct fs)) (hc : P.cellsOf t = d.n) (hs : OpF enc P w base held fs.toList 0 d) : Opens enc P w base held t d := fun fuel cs x h => by
  obtain ⟨xs, n, _, _, hl, hx, hf⟩ := DataW.trod_struct ht h
  obtain ⟨y, hy⟩ := hs n cs (fun f hfm => by
    obtain ⟨i, hi, rfl⟩ := List.mem_iff_getElem.1 hfm
    have hi' : i < fs.size := by simpa using hi
    have := hf i (fs[i]) (by simp [hi'])
    rw [List.getElem?_eq_getElem (by omega)] at this
    exact ⟨_, by simpa using this⟩)
  refine ⟨y, ?_⟩
  rw [List.drop_zero, List.take_of_length_le (by omega)] at hy
  exact hy
theorem opens_arr {α : Type} {d : Kd α} {t e : TypeId} {n : Nat} (ht : P.underlying t = some (.array n e)) (hc : P.cellsOf e = d.n) (hct : P.cellsOf t = n * d.n) (he : Opens enc P w base held e d) : Opens enc P w base held t (kVec n d) := fun fuel cs x h => by
  obtain ⟨xs, m, _, _, hl, hx, hf⟩ := DataW.trod_array ht h
  have each : ∀ i, i < n → ∃ y, d.rep (imOf w) ((cs.drop (i * d.n)).take d.n) y := by
    intro i hi
    have h1 := hf i hi
    rw [List.getElem?_eq_getElem (by omega), hc] at h1
    exact he _ _ _ h1
  obtain ⟨ys, hyl, hys⟩ := choose_list n each
  refine ⟨ys, ⟨(List.range n).map (fun i => (cs.drop (i * d.n)).take d.n), ?_, by simp [hyl], fun j y hj => ?_⟩, hyl⟩
  · rw [hct] at hl
    clear hys hyl each hf hx
    have flat : ∀ (n : Nat) (cs : List Value), cs.length = n * d.n → cs = ((List.range n).map (fun i => (cs.drop (i * d.n)).take d.n)).flatten := by
      intro n
      induction n with
      | zero => intro cs h; simp at h; simp [h]
      | succ n ih =>
        intro cs h
        rw [List.range_succ, List.map_append, List.flatten_append]
        have h1 := ih (cs.take (n * d.n)) (by simp [h, Nat.add_mul])
        have h2 : (List.range n).map (fun i => ((cs.take (n * d.n)).drop (i * d.n)).take d.n) = (List.range n).map (fun i => (cs.drop (i * d.n)).take d.n) := by
          apply List.map_congr_left
          intro i hi
          have hi := List.mem_range.1 hi
          have h3 : i * d.n + d.n ≤ n * d.n := by
            have := Nat.mul_le_mul_right d.n (show i + 1 ≤ n from hi)
            rw [Nat.add_mul] at this; omega
          rw [List.drop_take, List.take_take, Nat.min_eq_left (by omega)]
        rw [← h2, ← h1]
        simp only [List.map_cons, List.map_nil, List.flatten_cons, List.flatten_nil, List.append_nil]
        rw [List.take_of_length_le (l := cs.drop (n * d.n)) (by simp [h, Nat.add_mul]), List.take_append_drop]
    exact flat n cs hl
  · have hjn := (List.getElem?_eq_some_iff.1 hj).1
    exact ⟨_, by simp [show j < n by omega], hys j y hj⟩
theorem open_agg {α : Type} {d : Kd α} {t : TypeId} {v : Value} {dd : DataW H} {p : List MemPlace} {r : Reach} {base' : Nat} {fs : Array Field} (ht : P.underlying t = some (.struct fs)) (ho : Opens enc P w base held t d) (hok : Value.okWide P w r base' t v) (h : DataW.Trod enc P w base (fun _ => true) held t v dd p) :
    ∃ cs y, v = .agg cs.toArray ∧ d.rep (imOf w) cs y := by
  unfold Value.okWide at hok
  rw [ht] at hok
  obtain ⟨cs, rfl, _, _⟩ := hok
  obtain ⟨fuel, hf⟩ := h
  obtain ⟨y, hy⟩ := ho _ _ _ hf
  exact ⟨cs.toList, y, by simp, hy⟩
theorem open_slice {α : Type} {d : Kd α} {t e : TypeId} {v : Value} {dd : DataW H} {p : List MemPlace} {r : Reach} {base' : Nat} (ht : P.underlying t = some (.slice e)) (ho : Opens enc P w base held t (kSl d)) (hok : Value.okWide P w r base' t v) (h : DataW.Trod enc P w base (fun _ => true) held t v dd p) :
    ∃ (A : Option Addr) (l : List α) (c : Nat), v = .slice A l.length c ∧ l.length ≤ c ∧ Els d (imOf w) A l := by
  obtain ⟨a0, len, cap, rfl⟩ := okWide_slice ht hok
  obtain ⟨fuel, hf⟩ := h
  obtain ⟨l, A, c, e, h1, h2⟩ := ho _ _ _ hf
  simp only [Value.cells, List.cons.injEq, and_true, Value.slice.injEq] at e
  obtain ⟨rfl, rfl, rfl⟩ := e
  exact ⟨_, l, _, rfl, h1, h2⟩
end
end Go.Proofs.Ytjjpaghloaggeaa
