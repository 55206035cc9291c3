/- Memory that stays as it is, what reads as plain data, blocks that are still written; no program. -/
import Derived.Test.YtjjpaghloaggeaaCtl
set_option linter.unusedVariables false
set_option linter.unusedSimpArgs false
namespace Go.Proofs.Ytjjpaghloaggeaa
open Go.RowKit
/-! ### Memory that stays -/
abbrev Im := Nat → Option Obj
def Im.le (I J : Im) : Prop := ∀ b o, I b = some o → J b = some o
theorem Im.le.refl (I : Im) : Im.le I I := fun _ _ h => h
theorem Im.le.trans {I J K : Im} (h : Im.le I J) (k : Im.le J K) : Im.le I K := fun b o hb => k b o (h b o hb)
def Sat (I : Im) (w : World) : Prop := ∀ b o, I b = some o → w.heap[b]? = some o
def Im.cell? (I : Im) (a : Addr) : Option Value := match I a.block with
  | some (.cells c _ _) => if a.spot.isSome then none else c[a.off]?
  | _ => none
theorem Sat.cell {I : Im} {w : World} (h : Sat I w) {a : Addr} {v : Value} (hc : I.cell? a = some v) : w.cell? a = some v := by
  unfold Im.cell? at hc
  unfold World.cell?
  split at hc
  · rename_i c e f hI
    rw [h _ _ hI]; exact hc
  · cases hc
theorem Im.cell_up {I J : Im} (h : Im.le I J) {a : Addr} {v : Value} (hc : I.cell? a = some v) : J.cell? a = some v := by
  unfold Im.cell? at hc ⊢
  split at hc
  · rename_i c e f hI
    rw [h _ _ hI]; exact hc
  · cases hc
theorem Sat.gr {I : Im} {w w' : World} (h : Sat I w) (hg : Gr w w') : Sat I w' := fun b o hb => hg.block (h b o hb)
theorem Sat.lt {I : Im} {w : World} (h : Sat I w) {b : Nat} {o : Obj} (hb : I b = some o) : b < w.heap.size := lt_of_heap (h b o hb)
theorem Sat.fresh {I : Im} {w : World} (h : Sat I w) {b : Nat} (hb : w.heap.size ≤ b) : I b = none := by
  cases hI : I b with
  | none => rfl
  | some o => have := h.lt hI; omega
theorem Sat.setB {I : Im} {w : World} (h : Sat I w) {b : Nat} (hb : I b = none) (cs : List Value) (e : TypeId) : Sat I (setB w b cs e) := by
  intro i o hi
  have hne : b ≠ i := fun e => by subst e; rw [hb] at hi; cases hi
  simp only [Go.Proofs.Ytjjpaghloaggeaa.setB]
  rw [Array.getElem?_setIfInBounds_ne hne]
  exact h i o hi
def imOf (w : World) : Im := fun b => w.heap[b]?
theorem sat_imOf (w : World) : Sat (imOf w) w := fun _ _ h => h
/-- From w, where I stays, the walk has come to w', where J stays: nothing that was there has changed; what stays besides is new. -/
structure New (I : Im) (w : World) (J : Im) (w' : World) : Prop where
  le : Im.le I J
  sat : Sat J w'
  gr : Gr w w'
  old : ∀ b, b < w.heap.size → J b = I b
theorem New.refl {I : Im} {w : World} (h : Sat I w) : New I w I w := ⟨Im.le.refl _, h, Gr.refl _, fun _ _ => rfl⟩
theorem New.trans {I J K : Im} {w w1 w2 : World} (h : New I w J w1) (k : New J w1 K w2) : New I w K w2 :=
  ⟨h.le.trans k.le, k.sat, h.gr.trans k.gr, fun b hb => (k.old b (Nat.lt_of_lt_of_le hb h.gr.size)).trans (h.old b hb)⟩
theorem New.ofGr {I J : Im} {w w1 w2 : World} (h : New I w J w1) (k : Gr w1 w2) : New I w J w2 := ⟨h.le, h.sat.gr k, h.gr.trans k, h.old⟩
theorem New.alloc {I J : Im} {w w1 : World} (h : New I w J w1) (o : Obj) : New I w J (w1.alloc o) := h.ofGr ((Gr.refl _).alloc o)
theorem New.drew {I J : Im} {w w1 : World} (h : New I w J w1) : New I w J w1.drew := h.ofGr (Gr.refl _).drew
theorem New.setB {I J : Im} {w w1 : World} (h : New I w J w1) {b : Nat} (hb : w.heap.size ≤ b) (hJ : J b = none) (cs : List Value) (e : TypeId) : New I w J (setB w1 b cs e) :=
  ⟨h.le, h.sat.setB hJ cs e, h.gr.setB hb cs e, h.old⟩
/-- A block that is written no more. -/
def Im.add (I : Im) (b : Nat) (o : Obj) : Im := fun i => if i = b then some o else I i
theorem Im.add_at (I : Im) (b : Nat) (o : Obj) : I.add b o b = some o := by simp [Im.add]
theorem Im.le_add (I : Im) {b : Nat} (o : Obj) (h : I b = none) : Im.le I (I.add b o) := fun i x hi => by
  have hne : ¬ i = b := fun e => by subst e; rw [h] at hi; cases hi
  simp [Im.add, hne, hi]
theorem New.freeze {I J : Im} {w w1 : World} (h : New I w J w1) {b : Nat} {o : Obj} (hb : w.heap.size ≤ b) (hJ : J b = none) (ho : w1.heap[b]? = some o) : New I w (J.add b o) w1 := by
  refine ⟨h.le.trans (J.le_add o hJ), fun i x hi => ?_, h.gr, fun i hi => ?_⟩
  · simp only [Im.add] at hi
    split at hi
    · rename_i e; subst e; injection hi with hi; subst hi; exact ho
    · exact h.sat i x hi
  · simp only [Im.add]
    rw [if_neg (by omega)]
    exact h.old i hi
/-- A new block that stays. -/
theorem New.lit {I J : Im} {w w1 : World} (h : New I w J w1) (o : Obj) : New I w (J.add w1.heap.size o) (w1.alloc o) :=
  (h.alloc o).freeze h.gr.size (h.sat.fresh (Nat.le_refl _)) (heap_new _ _)
/-- What a call has made stays, or is let go. -/
theorem New.drop {I J K : Im} {w w1 w2 : World} (h : New I w J w1) (k : New K w1 K w2) : New I w J w2 := h.ofGr k.gr
/-- A block of the walk's own that is still written. -/
structure Box (I : Im) (w : World) (b : Nat) (cs : List Value) (e : TypeId) : Prop where
  blk : Blk w b cs e
  im : I b = none
theorem Box.new {I J : Im} {w w1 : World} (h : New I w J w1) (cs : List Value) (e : TypeId) : Box J (w1.alloc (.cells cs.toArray e)) w1.heap.size cs e := ⟨Blk.new _ _ _, h.sat.fresh (Nat.le_refl _)⟩
theorem Box.next {I J : Im} {w w' : World} {b : Nat} {cs : List Value} {e : TypeId} (h : Box I w b cs e) (k : New I w J w') : Box J w' b cs e := ⟨h.blk.gr k.gr, by rw [k.old b h.blk.lt]; exact h.im⟩
theorem Box.gr {I : Im} {w w' : World} {b : Nat} {cs : List Value} {e : TypeId} (h : Box I w b cs e) (k : Gr w w') : Box I w' b cs e := ⟨h.blk.gr k, h.im⟩
theorem Box.set {I : Im} {w : World} {b : Nat} {cs ds : List Value} {e e' : TypeId} (h : Box I w b cs e) : Box I (Go.Proofs.Ytjjpaghloaggeaa.setB w b ds e') b ds e' := ⟨h.blk.set, h.im⟩
theorem Box.other {I : Im} {w : World} {b b' : Nat} {cs ds : List Value} {e e' : TypeId} (h : Box I w b cs e) (hne : b' ≠ b) : Box I (Go.Proofs.Ytjjpaghloaggeaa.setB w b' ds e') b cs e := ⟨h.blk.other hne, h.im⟩
theorem Box.cell {I : Im} {w : World} {b o : Nat} {cs : List Value} {e : TypeId} {v : Value} (h : Box I w b cs e) (hv : cs[o]? = some v) : w.cell? ⟨b, o, none⟩ = some v := h.blk.cell hv
theorem Box.lt {I : Im} {w : World} {b : Nat} {cs : List Value} {e : TypeId} (h : Box I w b cs e) : b < w.heap.size := h.blk.lt
theorem New.setBox {I J : Im} {w w1 : World} {b : Nat} {cs ds : List Value} {e e' : TypeId} (h : New I w J w1) (hb : Box J w1 b cs e) (hge : w.heap.size ≤ b) : New I w J (Go.Proofs.Ytjjpaghloaggeaa.setB w1 b ds e') := h.setB hge hb.im ds e'
theorem New.freezeBox {I J : Im} {w w1 : World} {b : Nat} {cs : List Value} {e : TypeId} (h : New I w J w1) (hb : Box J w1 b cs e) (hge : w.heap.size ≤ b) : New I w (J.add b (.cells cs.toArray e (0, 0))) w1 := h.freeze hge hb.im hb.blk
/-! ### Kinds of plain data -/
/-- x is a number of its kind. -/
def InK : IntKind → Int → Prop
  | .i8, x => -128 ≤ x ∧ x ≤ 127
  | .i16, x => -32768 ≤ x ∧ x ≤ 32767
  | .i32, x => -2147483648 ≤ x ∧ x ≤ 2147483647
  | .i64, x => -9223372036854775808 ≤ x ∧ x ≤ 9223372036854775807
  | .u8, x => 0 ≤ x ∧ x ≤ 255
  | .u16, x => 0 ≤ x ∧ x ≤ 65535
  | .u32, x => 0 ≤ x ∧ x ≤ 4294967295
  | .u64, x => 0 ≤ x ∧ x ≤ 18446744073709551615
theorem InK.wrap {q : IntKind} {x : Int} (h : InK q x) : q.wrap x = x := by
  cases q <;> simp only [InK] at h <;> simp only [IntKind.wrap, IntKind.bits, IntKind.signed] <;> simp <;> omega
theorem inK_wrap (q : IntKind) (x : Int) : InK q (q.wrap x) := by
  cases q <;> simp only [InK, IntKind.wrap, IntKind.bits, IntKind.signed] <;> simp <;> omega
theorem inK_wf {q : IntKind} {x : Int} : InK q x ↔ (Lit.int q x).wf = true := by
  cases q <;> simp [InK, Lit.wf, IntKind.min, IntKind.max, IntKind.signed, IntKind.bits] <;> omega
/-- How plain data lies in cells. -/
structure Kd (α : Type) where
  n : Nat
  rep : Im → List Value → α → Prop
  up : ∀ {I J : Im} {vs : List Value} {x : α}, Im.le I J → rep I vs x → rep J vs x
  len : ∀ {I : Im} {vs : List Value} {x : α}, rep I vs x → vs.length = n
  one : ∀ {I : Im} {vs : List Value} {x : α}, rep I vs x → ∀ v ∈ vs, v.oneCell' = true
def kInt (q : IntKind) : Kd Int where
  n := 1
  rep := fun _ vs x => vs = [.int q x] ∧ InK q x
  up := fun _ h => h
  len := fun h => by rw [h.1]; rfl
  one := fun h v hv => by rw [h.1] at hv; simp at hv; subst hv; rfl
def kBool : Kd Bool where
  n := 1
  rep := fun _ vs x => vs = [.bool x]
  up := fun _ h => h
  len := fun h => by rw [h]; rfl
  one := fun h v hv => by rw [h] at hv; simp at hv; subst hv; rfl
/-- The elements lie from A on. -/
def Els {α : Type} (d : Kd α) (I : Im) (A : Option Addr) (xs : List α) : Prop :=
  xs.length ≤ 9223372036854775807 ∧ (0 < xs.length → ∃ b o, A = some ⟨b, o, none⟩ ∧ ∀ j x, xs[j]? = some x → ∃ vs, d.rep I vs x ∧ ∀ i u, vs[i]? = some u → I.cell? ⟨b, o + j * d.n + i, none⟩ = some u)
theorem Els.up {α : Type} {d : Kd α} {I J : Im} {A : Option Addr} {xs : List α} (h : Els d I A xs) (hle : Im.le I J) : Els d J A xs :=
  ⟨h.1, fun hn => by
    obtain ⟨b, o, e, hx⟩ := h.2 hn
    refine ⟨b, o, e, fun j x hj => ?_⟩
    obtain ⟨vs, hr, hc⟩ := hx j x hj
    exact ⟨vs, d.up hle hr, fun i u hu => Im.cell_up hle (hc i u hu)⟩⟩
theorem Els.nil {α : Type} (d : Kd α) (I : Im) (A : Option Addr) : Els d I A ([] : List α) := ⟨by simp, fun h => by simp at h⟩
def kSl {α : Type} (d : Kd α) : Kd (List α) where
  n := 1
  rep := fun I vs xs => ∃ A c, vs = [.slice A xs.length c] ∧ xs.length ≤ c ∧ Els d I A xs
  up := fun hle ⟨A, c, h1, h2, h3⟩ => ⟨A, c, h1, h2, h3.up hle⟩
  len := fun ⟨A, c, h1, _⟩ => by rw [h1]; rfl
  one := fun ⟨A, c, h1, _⟩ v hv => by rw [h1] at hv; simp at hv; subst hv; rfl
def kPair {α β : Type} (d : Kd α) (e : Kd β) : Kd (α × β) where
  n := d.n + e.n
  rep := fun I vs x => ∃ us ts, vs = us ++ ts ∧ d.rep I us x.1 ∧ e.rep I ts x.2
  up := fun hle ⟨us, ts, h, h1, h2⟩ => ⟨us, ts, h, d.up hle h1, e.up hle h2⟩
  len := fun ⟨us, ts, h, h1, h2⟩ => by rw [h, List.length_append, d.len h1, e.len h2]
  one := fun ⟨us, ts, h, h1, h2⟩ v hv => by
    rw [h, List.mem_append] at hv
    exact hv.elim (d.one h1 v) (e.one h2 v)
def kMap {α β : Type} (f : β → α) (d : Kd α) : Kd β where
  n := d.n
  rep := fun I vs x => d.rep I vs (f x)
  up := fun hle h => d.up hle h
  len := fun h => d.len h
  one := fun h => d.one h
/-- Element i of a slice. -/
theorem Els.at_ {α : Type} {d : Kd α} {I : Im} {b o : Nat} {xs : List α} (h : Els d I (some ⟨b, o, none⟩) xs) {j : Nat} {x : α} (hj : xs[j]? = some x) :
    ∃ vs, d.rep I vs x ∧ ∀ i u, vs[i]? = some u → I.cell? ⟨b, o + j * d.n + i, none⟩ = some u := by
  obtain ⟨b', o', e, hx⟩ := h.2 (by have := (List.getElem?_eq_some_iff.1 hj).1; omega)
  injection e with e
  injection e with e1 e2
  subst e1 e2
  exact hx j x hj
theorem Els.form {α : Type} {d : Kd α} {I : Im} {A : Option Addr} {xs : List α} (h : Els d I A xs) (hn : 0 < xs.length) : ∃ b o, A = some ⟨b, o, none⟩ := by
  obtain ⟨b, o, e, _⟩ := h.2 hn
  exact ⟨b, o, e⟩
theorem Els.drop {α : Type} {d : Kd α} {I : Im} {b o : Nat} {xs : List α} (h : Els d I (some ⟨b, o, none⟩) xs) (k : Nat) : Els d I (some ⟨b, o + k * d.n, none⟩) (xs.drop k) := by
  refine ⟨by have := h.1; simp; omega, fun hn => ⟨b, o + k * d.n, rfl, fun j x hj => ?_⟩⟩
  rw [List.getElem?_drop] at hj
  obtain ⟨vs, hr, hc⟩ := h.at_ hj
  refine ⟨vs, hr, fun i u hu => ?_⟩
  have := hc i u hu
  rwa [show o + (k + j) * d.n + i = o + k * d.n + j * d.n + i from by rw [Nat.add_mul]; omega] at this
theorem Els.take {α : Type} {d : Kd α} {I : Im} {A : Option Addr} {xs : List α} (h : Els d I A xs) (k : Nat) : Els d I A (xs.take k) := by
  refine ⟨by have := h.1; simp; omega, fun hn => ?_⟩
  simp at hn
  obtain ⟨b, o, e, hx⟩ := h.2 (by omega)
  refine ⟨b, o, e, fun j x hj => hx j x ?_⟩
  rw [List.getElem?_take] at hj
  split at hj
  · exact hj
  · cases hj
/-- A number of a slice of numbers. -/
theorem Els.num {q : IntKind} {I : Im} {b o : Nat} {xs : List Int} (h : Els (kInt q) I (some ⟨b, o, none⟩) xs) {j : Nat} (hj : j < xs.length) : I.cell? ⟨b, o + j * 1, none⟩ = some (.int q xs[j]) ∧ InK q xs[j] := by
  obtain ⟨vs, ⟨rfl, hk⟩, hc⟩ := h.at_ (List.getElem?_eq_getElem hj)
  refine ⟨?_, hk⟩
  have := hc 0 (.int q xs[j]) rfl
  simpa [kInt] using this
theorem Els.inK {q : IntKind} {I : Im} {A : Option Addr} {xs : List Int} (h : Els (kInt q) I A xs) : ∀ x ∈ xs, InK q x := by
  intro x hx
  obtain ⟨j, hj, rfl⟩ := List.mem_iff_getElem.1 hx
  obtain ⟨b, o, rfl⟩ := h.form (by omega)
  exact (h.num hj).2
/-- A row of new cells. -/
theorem Els.row {α : Type} {d : Kd α} {I : Im} {b : Nat} {e : TypeId} {xs : List α} {vss : List (List Value)} {fr : Nat × Nat} (hI : I b = some (.cells vss.flatten.toArray e fr)) (hl : xs.length ≤ 9223372036854775807)
    (hv : vss.length = xs.length) (hr : ∀ (j : Nat) x, xs[j]? = some x → ∃ vs, vss[j]? = some vs ∧ d.rep I vs x) : Els d I (some ⟨b, 0, none⟩) xs := by
  refine ⟨hl, fun _ => ⟨b, 0, rfl, fun j x hj => ?_⟩⟩
  obtain ⟨vs, h1, h2⟩ := hr j x hj
  refine ⟨vs, h2, fun i u hu => ?_⟩
  have flat : ∀ (vss : List (List Value)) (j : Nat) (vs : List Value), (∀ us ∈ vss, us.length = d.n) → vss[j]? = some vs → ∀ i u, vs[i]? = some u → vss.flatten[j * d.n + i]? = some u := by
    intro vss
    induction vss with
    | nil => intro j vs _ h; simp at h
    | cons us vss ih =>
      intro j vs hall h i u hu
      cases j with
      | zero =>
        simp at h
        subst h
        simp only [List.flatten_cons, Nat.zero_mul, Nat.zero_add]
        rw [List.getElem?_append_left (List.getElem?_eq_some_iff.1 hu).1]
        exact hu
      | succ j =>
        simp at h
        have hus := hall us (by simp)
        simp only [List.flatten_cons]
        rw [List.getElem?_append_right (by rw [hus, Nat.add_mul]; omega), hus, show (j + 1) * d.n + i - d.n = j * d.n + i from by rw [Nat.add_mul]; omega]
        exact ih j vs (fun x hx => hall x (by simp [hx])) h i u hu
  have hall : ∀ us ∈ vss, us.length = d.n := by
    intro us hus
    obtain ⟨k, hk, rfl⟩ := List.mem_iff_getElem.1 hus
    obtain ⟨vs', h3, h4⟩ := hr k (xs[k]'(by omega)) (List.getElem?_eq_getElem _)
    rw [List.getElem?_eq_getElem hk] at h3
    injection h3 with h3
    rw [h3]; exact d.len h4
  have := flat vss j vs hall h1 i u hu
  simp only [Im.cell?, hI]
  simpa using this
/-- A row of numbers. -/
theorem Els.nums {q : IntKind} {I : Im} {b : Nat} {e : TypeId} {xs : List Int} {fr : Nat × Nat} (hI : I b = some (.cells (xs.map (Value.int q)).toArray e fr)) (hl : xs.length ≤ 9223372036854775807) (hk : ∀ x ∈ xs, InK q x) : Els (kInt q) I (some ⟨b, 0, none⟩) xs := by
  refine ⟨hl, fun _ => ⟨b, 0, rfl, fun j x hj => ⟨[.int q x], ⟨rfl, hk x (List.mem_of_getElem? hj)⟩, fun i u hu => ?_⟩⟩⟩
  cases i with
  | zero =>
    simp at hu
    subst hu
    simp [Im.cell?, hI, kInt, hj]
  | succ i => simp at hu
end Go.Proofs.Ytjjpaghloaggeaa
