/- Slices that are appended to; no program. -/
import Derived.Test.YtjjpaghloaggeaaReg
import Derived.ArgAppend
set_option linter.unusedVariables false
set_option linter.unusedSimpArgs false
namespace Go.Proofs.Ytjjpaghloaggeaa
open Go.RowKit
/-- The cells of a row of data. -/
def Row {α : Type} (d : Kd α) (J : Im) (cs : List Value) (xs : List α) : Prop := ∃ vss : List (List Value), cs = vss.flatten ∧ vss.length = xs.length ∧ ∀ (j : Nat) x, xs[j]? = some x → ∃ vs, vss[j]? = some vs ∧ d.rep J vs x
theorem Row.up {α : Type} {d : Kd α} {J K : Im} {cs : List Value} {xs : List α} (h : Row d J cs xs) (hle : Im.le J K) : Row d K cs xs := by
  obtain ⟨vss, h1, h2, h3⟩ := h
  exact ⟨vss, h1, h2, fun j x hj => by obtain ⟨vs, h4, h5⟩ := h3 j x hj; exact ⟨vs, h4, d.up hle h5⟩⟩
theorem Row.nil {α : Type} (d : Kd α) (J : Im) : Row d J [] ([] : List α) := ⟨[], rfl, rfl, fun j x h => by simp at h⟩
theorem Row.append {α : Type} {d : Kd α} {J : Im} {cs ds : List Value} {xs ys : List α} (h : Row d J cs xs) (k : Row d J ds ys) : Row d J (cs ++ ds) (xs ++ ys) := by
  obtain ⟨vss, rfl, h2, h3⟩ := h
  obtain ⟨uss, rfl, k2, k3⟩ := k
  refine ⟨vss ++ uss, by simp, by simp [h2, k2], fun j x hj => ?_⟩
  rcases Nat.lt_or_ge j xs.length with hlt | hge
  · rw [List.getElem?_append_left hlt] at hj
    obtain ⟨vs, h4, h5⟩ := h3 j x hj
    exact ⟨vs, by rw [List.getElem?_append_left (by omega)]; exact h4, h5⟩
  · rw [List.getElem?_append_right hge] at hj
    obtain ⟨vs, h4, h5⟩ := k3 _ x hj
    exact ⟨vs, by rw [List.getElem?_append_right (by omega), h2]; exact h4, h5⟩
theorem Row.one {α : Type} {d : Kd α} {J : Im} {vs : List Value} {x : α} (h : d.rep J vs x) : Row d J vs [x] := ⟨[vs], by simp, rfl, fun j y hj => by
  cases j with
  | zero => simp at hj; subst hj; exact ⟨vs, rfl, h⟩
  | succ j => simp at hj⟩
theorem Row.nums {q : IntKind} {J : Im} {xs : List Int} (hk : ∀ x ∈ xs, InK q x) : Row (kInt q) J (xs.map (Value.int q)) xs := by
  refine ⟨xs.map (fun x => [Value.int q x]), ?_, by simp, fun j x hj => ⟨[.int q x], by simp [hj], rfl, hk x (List.mem_of_getElem? hj)⟩⟩
  induction xs with
  | nil => rfl
  | cons x xs ih => simp [ih (fun y hy => hk y (by simp [hy]))]
theorem Row.length {α : Type} {d : Kd α} {J : Im} {cs : List Value} {xs : List α} (h : Row d J cs xs) : cs.length = xs.length * d.n := by
  obtain ⟨vss, rfl, h2, h3⟩ := h
  rw [← h2]
  have hall : ∀ us ∈ vss, us.length = d.n := by
    intro us hus
    obtain ⟨k, hk, rfl⟩ := List.mem_iff_getElem.1 hus
    obtain ⟨vs', h4, h5⟩ := h3 k (xs[k]'(by omega)) (List.getElem?_eq_getElem _)
    rw [List.getElem?_eq_getElem hk] at h4
    injection h4 with h4
    rw [h4]; exact d.len h5
  clear h2 h3
  induction vss with
  | nil => simp
  | cons us vss ih =>
    simp only [List.flatten_cons, List.length_append, List.length_cons]
    rw [hall us (by simp), ih (fun x hx => hall x (by simp [hx])), Nat.add_mul]
    omega
theorem Row.ones {α : Type} {d : Kd α} {J : Im} {cs : List Value} {xs : List α} (h : Row d J cs xs) : ∀ v ∈ cs, v.oneCell' = true := by
  obtain ⟨vss, rfl, h2, h3⟩ := h
  intro v hv
  obtain ⟨us, hus, hv⟩ := List.mem_flatten.1 hv
  obtain ⟨k, hk, rfl⟩ := List.mem_iff_getElem.1 hus
  obtain ⟨vs', h4, h5⟩ := h3 k (xs[k]'(by omega)) (List.getElem?_eq_getElem _)
  rw [List.getElem?_eq_getElem hk] at h4
  injection h4 with h4
  rw [h4] at hv
  exact d.one h5 v hv
/-- The elements of a block that stays. -/
theorem Row.els {α : Type} {d : Kd α} {J : Im} {b : Nat} {e : TypeId} {cs : List Value} {rest : List Value} {xs : List α} {fr : Nat × Nat} (h : Row d J cs xs) (hJ : J b = some (.cells (cs ++ rest).toArray e fr)) (hl : xs.length ≤ 9223372036854775807) : Els d J (some ⟨b, 0, none⟩) xs := by
  obtain ⟨vss, rfl, h2, h3⟩ := h
  refine ⟨hl, fun _ => ⟨b, 0, rfl, fun j x hj => ?_⟩⟩
  obtain ⟨vs, h4, h5⟩ := h3 j x hj
  refine ⟨vs, h5, fun i u hu => ?_⟩
  have hall : ∀ us ∈ vss, us.length = d.n := by
    intro us hus
    obtain ⟨k, hk, rfl⟩ := List.mem_iff_getElem.1 hus
    obtain ⟨vs', h6, h7⟩ := h3 k (xs[k]'(by omega)) (List.getElem?_eq_getElem _)
    rw [List.getElem?_eq_getElem hk] at h6
    injection h6 with h6
    rw [h6]; exact d.len h7
  have flat : ∀ (vss : List (List Value)) (j : Nat) (vs : List Value), (∀ us ∈ vss, us.length = d.n) → vss[j]? = some vs → ∀ i u, vs[i]? = some u → vss.flatten[j * d.n + i]? = some u := by
    intro vss
    induction vss with
    | nil => intro j vs _ h; simp at h
    | cons us vss ih =>
      intro j vs hall h i u hu
      cases j with
      | zero =>
        simp at h
        subst h
        simp only [List.flatten_cons, Nat.zero_mul, Nat.zero_add]
        rw [List.getElem?_append_left (List.getElem?_eq_some_iff.1 hu).1]
        exact hu
      | succ j =>
        simp at h
        have hus := hall us (by simp)
        simp only [List.flatten_cons]
        rw [List.getElem?_append_right (by rw [hus, Nat.add_mul]; omega), hus, show (j + 1) * d.n + i - d.n = j * d.n + i from by rw [Nat.add_mul]; omega]
        exact ih j vs (fun x hx => hall x (by simp [hx])) h i u hu
  have := flat vss j vs hall h4 i u hu
  simp only [Im.cell?, hJ]
  simp only [Nat.zero_add, Option.isSome_none, Bool.false_eq_true, if_false, List.getElem?_toArray]
  rw [List.getElem?_append_left (List.getElem?_eq_some_iff.1 this).1]
  exact this
/-- The cells that elements lie in. -/
theorem Els.row' {α : Type} {d : Kd α} {J : Im} {A : Option Addr} {xs : List α} (h : Els d J A xs) : ∃ cs, Row d J cs xs ∧ (0 < xs.length → ∃ b o, A = some ⟨b, o, none⟩ ∧ ∀ j u, cs[j]? = some u → J.cell? ⟨b, o + j, none⟩ = some u) := by
  rcases Nat.eq_zero_or_pos xs.length with h0 | h0
  · have : xs = [] := List.eq_nil_of_length_eq_zero h0
    subst this
    exact ⟨[], Row.nil d J, fun h => by simp at h⟩
  obtain ⟨b, o, rfl, hx⟩ := h.2 h0
  have build : ∀ (n : Nat) (ys : List α), ys.length = n → ∀ o, (∀ (j : Nat) x, ys[j]? = some x → ∃ vs, d.rep J vs x ∧ ∀ i u, vs[i]? = some u → J.cell? ⟨b, o + j * d.n + i, none⟩ = some u) → ∃ cs, Row d J cs ys ∧ ∀ j u, cs[j]? = some u → J.cell? ⟨b, o + j, none⟩ = some u := by
    intro n
    induction n with
    | zero =>
      intro ys hy o _
      obtain rfl : ys = [] := List.eq_nil_of_length_eq_zero hy
      exact ⟨[], Row.nil d J, fun j u h => by simp at h⟩
    | succ n ih =>
      intro ys hy o hys
      cases ys with
      | nil => simp at hy
      | cons y ys =>
        obtain ⟨vs, h1, h2⟩ := hys 0 y (by simp)
        have hlen := d.len h1
        obtain ⟨cs, h3, h4⟩ := ih ys (by simpa using hy) (o + d.n) (fun j x hj => by
          obtain ⟨vs', h5, h6⟩ := hys (j + 1) x (by simpa using hj)
          refine ⟨vs', h5, fun i u hu => ?_⟩
          have := h6 i u hu
          rwa [show o + (j + 1) * d.n + i = o + d.n + j * d.n + i from by rw [Nat.add_mul]; omega] at this)
        refine ⟨vs ++ cs, (Row.one h1).append h3, fun j u hj => ?_⟩
        rcases Nat.lt_or_ge j vs.length with hlt | hge
        · rw [List.getElem?_append_left hlt] at hj
          have := h2 j u hj
          simpa using this
        · rw [List.getElem?_append_right hge] at hj
          have := h4 _ u hj
          rwa [show o + d.n + (j - vs.length) = o + j from by omega] at this
  obtain ⟨cs, h1, h2⟩ := build _ xs rfl o hx
  exact ⟨cs, h1, fun _ => ⟨b, o, rfl, h2⟩⟩
/-- v begins a row of the walk's own (block B or later) that may be appended to in place. -/
structure OwnK {α : Type} (d : Kd α) (J : Im) (w : World) (B : Nat) (e : TypeId) (v : Value) (xs : List α) : Prop where
  row : ∃ cs, w.ownsRow B e d.n v xs.length cs ∧ Row d J cs xs
  im : ∀ g, v.ownBlock = some g → J g = none
theorem OwnK.nil {α : Type} (d : Kd α) (J : Im) (w : World) (B : Nat) (e : TypeId) : OwnK d J w B e (.slice none 0 0) ([] : List α) :=
  ⟨⟨[], World.ownsRow_nil w B e d.n, Row.nil d J⟩, fun g h => by simp [Value.ownBlock] at h⟩
theorem OwnK.lt {α : Type} {d : Kd α} {J : Im} {w : World} {B : Nat} {e : TypeId} {v : Value} {xs : List α} (h : OwnK d J w B e v xs) {g : Nat} (hg : v.ownBlock = some g) : B ≤ g ∧ g < w.heap.size := by
  obtain ⟨cs, h1, _⟩ := h.row
  exact h1.lt g hg
theorem OwnK.next {α : Type} {d : Kd α} {J K : Im} {w w' : World} {B : Nat} {e : TypeId} {v : Value} {xs : List α} (h : OwnK d J w B e v xs) (k : New J w K w') : OwnK d K w' B e v xs := by
  obtain ⟨cs, h1, h2⟩ := h.row
  refine ⟨⟨cs, h1.kept (row := none) ⟨k.gr.b.os, k.gr.b.tape, k.gr.b.output, k.gr.b.size, fun i hi _ => k.gr.b.block i hi⟩ (by cases v.ownBlock <;> simp), h2.up k.le⟩, fun g hg => ?_⟩
  rw [k.old g (h.lt hg).2]; exact h.im g hg
theorem OwnK.gr {α : Type} {d : Kd α} {J : Im} {w w' : World} {B : Nat} {e : TypeId} {v : Value} {xs : List α} (h : OwnK d J w B e v xs) (k : Gr w w') : OwnK d J w' B e v xs := by
  obtain ⟨cs, h1, h2⟩ := h.row
  exact ⟨⟨cs, h1.kept (row := none) ⟨k.b.os, k.b.tape, k.b.output, k.b.size, fun i hi _ => k.b.block i hi⟩ (by cases v.ownBlock <;> simp), h2⟩, h.im⟩
/-- Another block is written. -/
theorem OwnK.other {α : Type} {d : Kd α} {J : Im} {w : World} {B : Nat} {e e' : TypeId} {v : Value} {xs : List α} (h : OwnK d J w B e v xs) {b : Nat} (hb : b < B) (ds : List Value) : OwnK d J (setB w b ds e') B e v xs := by
  obtain ⟨cs, h1, h2⟩ := h.row
  refine ⟨⟨cs, h1.kept (row := some b) ⟨rfl, rfl, rfl, by simp [setB], fun k hk hne => ?_⟩ ?_, h2⟩, h.im⟩
  · simp only [setB]
    rw [Array.getElem?_setIfInBounds_ne (fun e => hne (by rw [e]))]
  · cases hv : v.ownBlock with
    | none => exact .inl rfl
    | some g => exact .inr (fun e => by have := (h.lt hv).1; injection e with e; omega)
theorem OwnK.form {α : Type} {d : Kd α} {J : Im} {w : World} {B : Nat} {e : TypeId} {v : Value} {xs : List α} (h : OwnK d J w B e v xs) : ∃ A c, v = .slice A xs.length c ∧ xs.length ≤ c ∧ xs.length ≤ 9223372036854775807 ∧ (0 < xs.length → ∃ g, A = some ⟨g, 0, none⟩) := by
  obtain ⟨cs, h1, _⟩ := h.row
  rcases h1.2 with ⟨rfl, h0⟩ | ⟨g, cap, cur, rfl, _, _, hc, hm, _⟩
  · exact ⟨none, 0, by rw [h0], by omega, by omega, fun h => by omega⟩
  · unfold maxLen at hm
    exact ⟨_, cap, rfl, hc, by omega, fun _ => ⟨g, rfl⟩⟩
/-- The row is written no more. -/
theorem OwnK.freeze {α : Type} {d : Kd α} {I J : Im} {w0 w : World} {B : Nat} {e : TypeId} {v : Value} {xs : List α} (h : OwnK d J w B e v xs) (hN : New I w0 J w) (hB : w0.heap.size ≤ B) : ∃ K A c, New I w0 K w ∧ Im.le J K ∧ (∀ b, b < B → K b = J b) ∧ v = .slice A xs.length c ∧ xs.length ≤ c ∧ Els d K A xs := by
  obtain ⟨cs, h1, h2⟩ := h.row
  rcases h1.2 with ⟨rfl, h0⟩ | ⟨g, cap, cur, rfl, hb, hh, hc, hm, hs, ht⟩
  · have : xs = [] := List.eq_nil_of_length_eq_zero h0
    subst this
    exact ⟨J, none, 0, hN, Im.le.refl _, fun _ _ => rfl, rfl, Nat.le_refl _, Els.nil _ _ _⟩
  · have hJ : J g = none := h.im g rfl
    have hcur : cur = (cs ++ cur.toList.drop cs.length).toArray := by
      have e1 : cs = cur.toList.take cs.length := by rw [← ht, List.length_take]; simp [List.take_take]
      conv => lhs; rw [← Array.toArray_toList (xs := cur), ← List.take_append_drop cs.length cur.toList]
      rw [← e1]
    refine ⟨J.add g (.cells cur e (0, 0)), _, cap, hN.freeze (by omega) hJ hh, J.le_add _ hJ, fun b hb' => by simp only [Im.add]; rw [if_neg (by omega)], rfl, hc, ?_⟩
    refine (h2.up (J.le_add _ hJ)).els (rest := cur.toList.drop cs.length) (e := e) (fr := (0, 0)) ?_ (by unfold maxLen at hm; omega)
    rw [← hcur]; exact Im.add_at _ _ _
/-- What may be appended to: a row of one's own, or a slice without room. -/
def Apx {α : Type} (d : Kd α) (J : Im) (w : World) (B : Nat) (e : TypeId) (v : Value) (xs : List α) : Prop := OwnK d J w B e v xs ∨ ∃ A, v = .slice A xs.length xs.length ∧ Els d J A xs
theorem Apx.form {α : Type} {d : Kd α} {J : Im} {w : World} {B : Nat} {e : TypeId} {v : Value} {xs : List α} (h : Apx d J w B e v xs) : ∃ A c, v = .slice A xs.length c ∧ xs.length ≤ c ∧ xs.length ≤ 9223372036854775807 ∧ (0 < xs.length → ∃ g o, A = some ⟨g, o, none⟩) := by
  rcases h with h | ⟨A, rfl, h⟩
  · obtain ⟨A, c, h1, h2, h3, h4⟩ := h.form
    exact ⟨A, c, h1, h2, h3, fun hn => by obtain ⟨g, e⟩ := h4 hn; exact ⟨g, 0, e⟩⟩
  · exact ⟨A, _, rfl, Nat.le_refl _, h.1, fun hn => by obtain ⟨b, o, e⟩ := h.form hn; exact ⟨b, o, e⟩⟩
theorem Apx.next {α : Type} {d : Kd α} {J K : Im} {w w' : World} {B : Nat} {e : TypeId} {v : Value} {xs : List α} (h : Apx d J w B e v xs) (k : New J w K w') : Apx d K w' B e v xs := by
  rcases h with h | ⟨A, rfl, h⟩
  · exact .inl (h.next k)
  · exact .inr ⟨A, rfl, h.up k.le⟩
theorem Apx.freeze {α : Type} {d : Kd α} {I J : Im} {w0 w : World} {B : Nat} {e : TypeId} {v : Value} {xs : List α} (h : Apx d J w B e v xs) (hN : New I w0 J w) (hB : w0.heap.size ≤ B) : ∃ K A c, New I w0 K w ∧ Im.le J K ∧ (∀ b, b < B → K b = J b) ∧ v = .slice A xs.length c ∧ xs.length ≤ c ∧ Els d K A xs := by
  rcases h with h | ⟨A, rfl, h⟩
  · exact h.freeze hN hB
  · exact ⟨J, A, _, hN, Im.le.refl _, fun _ _ => rfl, rfl, Nat.le_refl _, h⟩
/-- What a step that writes rows of one's own keeps. -/
structure Keep (J : Im) (B : Nat) (w w' : World) : Prop where
  os : w'.os = w.os
  tape : w'.tape = w.tape
  output : w'.output = w.output
  size : w.heap.size ≤ w'.heap.size
  block : ∀ k, k < w.heap.size → (k < B ∨ J k ≠ none) → w'.heap[k]? = w.heap[k]?
theorem Keep.sat {J : Im} {B : Nat} {w w' : World} (k : Keep J B w w') (h : Sat J w) : Sat J w' := fun b o hb => by
  rw [k.block b (h.lt hb) (.inr (by rw [hb]; simp))]; exact h b o hb
theorem Keep.new {I J : Im} {B : Nat} {w0 w w' : World} (k : Keep J B w w') (h : New I w0 J w) (hB : w0.heap.size ≤ B) : New I w0 J w' :=
  ⟨h.le, k.sat h.sat, ⟨⟨k.os.trans h.gr.b.os, k.tape.trans h.gr.b.tape, k.output.trans h.gr.b.output, Nat.le_trans h.gr.b.size k.size, fun i hi => (k.block i (Nat.lt_of_lt_of_le hi h.gr.b.size) (.inl (by omega))).trans (h.gr.b.block i hi)⟩⟩, h.old⟩
theorem Keep.box {J : Im} {B b : Nat} {w w' : World} {cs : List Value} {e : TypeId} (k : Keep J B w w') (h : Box J w b cs e) (hb : b < B) : Box J w' b cs e :=
  ⟨by unfold Blk; rw [k.block b h.lt (.inl hb)]; exact h.blk, h.im⟩
theorem Keep.trans {J : Im} {B : Nat} {w w1 w2 : World} (h : Keep J B w w1) (k : Keep J B w1 w2) : Keep J B w w2 :=
  ⟨k.os.trans h.os, k.tape.trans h.tape, k.output.trans h.output, Nat.le_trans h.size k.size, fun i hi hc => (k.block i (Nat.lt_of_lt_of_le hi h.size) hc).trans (h.block i hi hc)⟩
theorem Keep.ofGr {J : Im} {B : Nat} {w w' : World} (h : Gr w w') : Keep J B w w' := ⟨h.b.os, h.b.tape, h.b.output, h.b.size, fun i hi _ => h.b.block i hi⟩
section
variable {P : Program}
/-- 'append(v, ys...)', run. -/
theorem run_app {α : Type} {d : Kd α} {J : Im} {w : World} {B : Nat} {t e ty : TypeId} {z : Value} {bytes : Nat} {v : Value} {xs ys : List α} {A : Option Addr} {m c : Nat} (ht : P.underlying t = some (.slice e)) (hinfo : (P.info? e).map (fun i => (i.zero, i.size, i.bytes)) = some (some z, d.n, bytes)) (hz : z.cells.size = d.n) (hd0 : 0 < d.n) (hb0 : 0 < bytes)
    (hS : Sat J w) (HA : Apx d J w B e v xs) (HE : Els d J A ys) (hm : ys.length = m) (hB : B ≤ w.heap.size) (hl : (xs.length + m) * bytes ≤ 140737488355328) :
    ∃ v' w', (Builtin.append_ #[t, t] ty #[v, .slice A m c]).run P w = .ok v' w' ∧ Apx d J w' B e v' (xs ++ ys) ∧ (0 < m → OwnK d J w' B e v' (xs ++ ys)) ∧ (OwnK d J w B e v xs → OwnK d J w' B e v' (xs ++ ys)) ∧ Keep J B w w' := by
  obtain ⟨i0, hi, hzz⟩ := Option.map_eq_some_iff.1 hinfo
  simp only [Prod.mk.injEq] at hzz
  obtain ⟨hz0, hz1, hz2⟩ := hzz
  have hlen : xs.length + m ≤ 140737488355328 := Nat.le_trans (Nat.le_mul_of_pos_right _ hb0) hl
  rcases Nat.eq_zero_or_pos m with h0 | h0
  · subst h0
    obtain rfl : ys = [] := List.eq_nil_of_length_eq_zero hm
    obtain ⟨A', c', rfl, hc, _, _⟩ := HA.form
    refine ⟨_, w, ?_, by simpa using HA, fun h => absurd h (Nat.lt_irrefl 0), fun h => by simpa using h, Keep.ofGr (Gr.refl _)⟩
    rcases A with _ | ad <;> rcases A' with _ | ad'
    all_goals simp [Builtin.append_, run_underlying ht, sizeOf, typeInfo, hi, Builtin.lenOf, Builtin.firstCells, hc, storeCells, loadCells, loadCellsFrom]
  · obtain ⟨ds, hr, hcs⟩ := HE.row'
    obtain ⟨b, o, rfl, hcell⟩ := hcs (by omega)
    have hnews : ∀ j u, ds[j]? = some u → w.cell? ((⟨b, o, none⟩ : Addr).add j) = some u := fun j u hu => by rw [add_plain]; exact hS.cell (hcell j u hu)
    have hdl : ds.length = m * d.n := by rw [hr.length, hm]
    have own : ∀ v, OwnK d J w B e v xs → ∃ v' w', (Builtin.append_ #[t, t] ty #[v, .slice (some ⟨b, o, none⟩) m c]).run P w = .ok v' w' ∧ Apx d J w' B e v' (xs ++ ys) ∧ (0 < m → OwnK d J w' B e v' (xs ++ ys)) ∧ (OwnK d J w B e v xs → OwnK d J w' B e v' (xs ++ ys)) ∧ Keep J B w w' := by
      intro v HO
      obtain ⟨cs, hrow, hR⟩ := HO.row
      obtain ⟨v', w', h1, h2, h3, _, h5⟩ := run_append_own_at (P := P) w B t ty e i0 z d.n bytes ht hi hz0 hz1 hz2 hz hd0 v xs.length cs hrow ⟨b, o, none⟩ m c ds hdl hnews hr.ones (by simp only [maxLen]; omega) hl hB
      have hK : Keep J B w w' := ⟨h3.os, h3.tape, h3.output, h3.size, fun k hk hc => h3.block k hk (fun e => by
        have h6 := HO.lt (g := k) e.symm
        have h7 := HO.im k e.symm
        rcases hc with hc | hc
        · omega
        · exact hc h7)⟩
      have hO : OwnK d J w' B e v' (xs ++ ys) := ⟨⟨cs ++ ds, by rw [List.length_append, hm]; exact h2, hR.append hr⟩, fun g hg => by
        rcases h5 with h5 | h5
        · exact HO.im g (by rw [← h5]; exact hg)
        · rw [h5] at hg; injection hg with hg; subst hg; exact hS.fresh (Nat.le_refl _)⟩
      exact ⟨v', w', h1, .inl hO, fun _ => hO, fun _ => hO, hK⟩
    rcases HA with HO | ⟨A', rfl, HE'⟩
    · exact own v HO
    · rcases A' with _ | ad'
      · have hx0 : xs = [] := by
          rcases Nat.eq_zero_or_pos xs.length with h | h
          · exact List.eq_nil_of_length_eq_zero h
          · obtain ⟨_, _, h', _⟩ := HE'.2 h; cases h'
        subst hx0
        exact own _ (OwnK.nil d J w B e)
      · obtain ⟨cs, hR, hcs'⟩ := HE'.row'
        have holds : ∀ j u, cs[j]? = some u → w.cell? (ad'.add j) = some u := by
          intro j u hu
          have hlen' := hR.length
          have hj := (List.getElem?_eq_some_iff.1 hu).1
          have hpos : 0 < xs.length := by
            rcases Nat.eq_zero_or_pos xs.length with h | h
            · rw [h] at hlen'; omega
            · exact h
          obtain ⟨b', o', e', hc'⟩ := hcs' hpos
          injection e' with e'
          subst e'
          rw [add_plain]
          exact hS.cell (hc' j u hu)
        obtain ⟨v', w', h1, h2, h3⟩ := run_append_arg_grows (P := P) (w := w) t ty e i0 z d.n bytes ht hi hz0 hz1 hz2 hz hd0 ad' xs.length xs.length cs hR.length holds ⟨b, o, none⟩ m c ds hdl hnews (by omega) (by simp only [maxLen]; omega) hl
        have hge : ∀ g, v'.ownBlock = some g → w.heap.size ≤ g := fun g hg => (h2.lt g hg).1
        have hO : OwnK d J w' B e v' (xs ++ ys) := by
          refine ⟨⟨cs ++ ds, ?_, hR.append hr⟩, fun g hg => hS.fresh (hge g hg)⟩
          rw [List.length_append, hm]
          refine ⟨h2.1, ?_⟩
          rcases h2.2 with h4 | ⟨g, cp, cur, h5, h6, h7⟩
          · exact .inl h4
          · exact .inr ⟨g, cp, cur, h5, Nat.le_trans hB h6, h7⟩
        exact ⟨v', w', h1, .inl hO, fun _ => hO, fun _ => hO, ⟨h3.os, h3.tape, h3.output, h3.size, fun k hk _ => h3.block k hk (by simp)⟩⟩
end
end Go.Proofs.Ytjjpaghloaggeaa
