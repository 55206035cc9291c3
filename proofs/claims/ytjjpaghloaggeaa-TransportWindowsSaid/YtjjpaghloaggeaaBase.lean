/- Worlds that have grown, blocks put anew, slices that are read or owned, append: general lemmas, no program. -/
import Derived.WalkKit
import Derived.Lib.Hide
import Derived.Maps.AppendAt
import Derived.Deep.QuietTactic
import Derived.BigQuiet
import Derived.KernelRfl
import Derived.IntWalk
import Derived.Deep.RegionWith
import Derived.Deep.RegionLaw
import Derived.Deep.RegionHeld3
import Derived.Deep.AppendLies
import Derived.WalkSpells
import Derived.WalkLawsBesides
import Derived.Laws.Slices
import Derived.Laws.MakeOwn
import Derived.Deep.LoopGhost
import Derived.Deep.DeepCutAuto
set_option linter.unusedVariables false
set_option linter.unusedSimpArgs false
namespace Go.Proofs.Ytjjpaghloaggeaa
open Go.RowKit

/-! ### Worlds that have grown -/
/-- All that was there is as it was; there may be more. -/
structure Gr (w w' : World) : Prop where
  b : Below w.heap.size w w'
theorem Gr.refl (w : World) : Gr w w := ⟨Below.refl _ _⟩
theorem Gr.trans {w1 w2 w3 : World} (h : Gr w1 w2) (k : Gr w2 w3) : Gr w1 w3 :=
  ⟨⟨k.b.os.trans h.b.os, k.b.tape.trans h.b.tape, k.b.output.trans h.b.output, Nat.le_trans h.b.size k.b.size, fun i hi => (k.b.block i (Nat.lt_of_lt_of_le hi h.b.size)).trans (h.b.block i hi)⟩⟩
theorem Gr.size {w w' : World} (h : Gr w w') : w.heap.size ≤ w'.heap.size := h.b.size
theorem Gr.alloc {w w' : World} (h : Gr w w') (o : Obj) : Gr w (w'.alloc o) := ⟨h.b.alloc h.b.size o⟩
theorem Gr.drew {w w' : World} (h : Gr w w') : Gr w w'.drew := ⟨⟨h.b.os, h.b.tape, h.b.output, h.b.size, h.b.block⟩⟩
theorem Gr.drewN {w w' : World} (h : Gr w w') (n : Nat) : Gr w (w'.drewN n) := ⟨⟨h.b.os, h.b.tape, h.b.output, h.b.size, h.b.block⟩⟩
theorem Gr.block {w w' : World} (h : Gr w w') {i : Nat} {o : Obj} (hi : w.heap[i]? = some o) : w'.heap[i]? = some o :=
  (h.b.block i (Array.getElem?_eq_some_iff.1 hi).1).trans hi
theorem Gr.cell {w w' : World} (h : Gr w w') {a : Addr} {v : Value} (hc : w.cell? a = some v) : w'.cell? a = some v :=
  (h.b.cell (World.block_lt_of_cell? w a hc)).trans hc
theorem Gr.grown {w w1 w2 : World} (h : Gr w w1) {row : Option Nat} (hg : w1.grownBy w2 row) (hr : ∀ k, row = some k → w.heap.size ≤ k) : Gr w w2 :=
  ⟨h.b.grown hg h.b.size hr⟩
theorem Gr.setCell {w w1 : World} (h : Gr w w1) {p : Addr} (hp : w.heap.size ≤ p.block) (v : Value) : Gr w (w1.setCell p v) := ⟨h.b.setCell hp v⟩
theorem Gr.below {w w' : World} (h : Gr w w') : Below w.heap.size w w' := h.b

/-! ### A block that is put anew -/
/-- Block b now holds the one cell v; all else that was there is as it was. -/
structure PutB (w w' : World) (b : Nat) (v : Value) (t : TypeId) : Prop where
  g : w.grownBy w' (some b)
  at_ : w'.heap[b]? = some (.cells #[v] t (0, 0))
theorem cell_of_block {w : World} {b : Nat} {v : Value} {t : TypeId} (h : w.heap[b]? = some (.cells #[v] t (0, 0))) : w.cell? ⟨b, 0, none⟩ = some v := by
  simp [World.cell?, h]
theorem frozen_of_block {w : World} {b o : Nat} {cs : Array Value} {t : TypeId} (h : w.heap[b]? = some (.cells cs t (0, 0))) : w.frozen? ⟨b, o, none⟩ = false := by
  simp [World.frozen?, h]
theorem PutB.cell {w w' : World} {b : Nat} {v : Value} {t : TypeId} (h : PutB w w' b v t) : w'.cell? ⟨b, 0, none⟩ = some v := cell_of_block h.at_
theorem PutB.frozen {w w' : World} {b : Nat} {v : Value} {t : TypeId} (h : PutB w w' b v t) : w'.frozen? ⟨b, 0, none⟩ = false := frozen_of_block h.at_
theorem PutB.refl {w : World} {b : Nat} {v : Value} {t : TypeId} (h : w.heap[b]? = some (.cells #[v] t (0, 0))) : PutB w w b v t := ⟨World.grownBy.refl _ _, h⟩
theorem heap_setCell_same {w : World} {b : Nat} {v x : Value} {t : TypeId} (h : w.heap[b]? = some (.cells #[v] t (0, 0))) : (w.setCell ⟨b, 0, none⟩ x).heap[b]? = some (.cells #[x] t (0, 0)) := by
  have hlt := (Array.getElem?_eq_some_iff.1 h).1
  have he := (Array.getElem?_eq_some_iff.1 h).2
  simp only [World.setCell]
  rw [Array.getElem?_modify, if_pos rfl, h]
  simp
theorem grownBy_setCell (w : World) (p : Addr) (x : Value) : w.grownBy (w.setCell p x) (some p.block) := by
  refine ⟨rfl, rfl, rfl, by simp [World.setCell], fun k hk hne => ?_⟩
  have : p.block ≠ k := fun e => hne (by rw [e])
  simp [World.setCell, Array.getElem?_modify, this]
theorem PutB.set {w w' : World} {b : Nat} {v x : Value} {t : TypeId} (h : PutB w w' b v t) : PutB w (w'.setCell ⟨b, 0, none⟩ x) b x t :=
  ⟨World.grownBy.trans h.g (grownBy_setCell w' ⟨b, 0, none⟩ x), heap_setCell_same h.at_⟩
theorem grownBy_cell {w w' : World} {b : Nat} (h : w.grownBy w' (some b)) {a : Addr} {v : Value} (hne : a.block ≠ b) (hc : w.cell? a = some v) : w'.cell? a = some v := by
  have hlt := World.block_lt_of_cell? w a hc
  have := h.block a.block hlt (fun e => hne (Option.some.inj e))
  unfold World.cell? at hc ⊢
  rw [this]; exact hc
theorem Gr.put {w w1 w2 : World} {b : Nat} {v : Value} {t : TypeId} (h : Gr w w1) (hp : PutB w1 w2 b v t) (hb : w.heap.size ≤ b) : Gr w w2 :=
  h.grown hp.g (fun k e => by cases e; exact hb)

/-! ### A slice of whole numbers that is read -/
def Rd (w : World) (k : IntKind) (A : Option Addr) (xs : List Int) : Prop :=
  xs.length ≤ 9223372036854775807 ∧ (0 < xs.length → ∃ ad, A = some ad ∧ ∀ j, j < xs.length → w.cell? (ad.add j) = some (.int k (xs.getD j 0)))
theorem Rd.gr {w w' : World} {k : IntKind} {A : Option Addr} {xs : List Int} (h : Rd w k A xs) (hg : Gr w w') : Rd w' k A xs :=
  ⟨h.1, fun hn => by obtain ⟨ad, e, hc⟩ := h.2 hn; exact ⟨ad, e, fun j hj => hg.cell (hc j hj)⟩⟩
theorem Rd.nil (w : World) (k : IntKind) (A : Option Addr) : Rd w k A [] := ⟨by simp, fun h => absurd h (by simp)⟩
theorem Rd.len {w : World} {k : IntKind} {A : Option Addr} {xs : List Int} (h : Rd w k A xs) : xs.length ≤ 9223372036854775807 := h.1
theorem add_block (ad : Addr) (j : Nat) : (ad.add j).block = ad.block := by unfold Addr.add; split <;> rfl
theorem add_zero (ad : Addr) : ad.add 0 = ad := by unfold Addr.add; split <;> simp_all
theorem add_add (ad : Addr) (i j : Nat) : (ad.add i).add j = ad.add (i + j) := by
  unfold Addr.add; split <;> split <;> simp_all [Nat.add_assoc]
theorem add_plain (g o j : Nat) : (⟨g, o, none⟩ : Addr).add j = ⟨g, o + j, none⟩ := by unfold Addr.add; split <;> simp_all
theorem Rd.put {w w' : World} {k : IntKind} {A : Option Addr} {xs : List Int} {b : Nat} (h : Rd w k A xs) (hg : w.grownBy w' (some b)) (hne : ∀ ad, A = some ad → ad.block ≠ b) : Rd w' k A xs :=
  ⟨h.1, fun hn => by
    obtain ⟨ad, e, hc⟩ := h.2 hn
    exact ⟨ad, e, fun j hj => grownBy_cell hg (by rw [add_block]; exact hne ad e) (hc j hj)⟩⟩
/-- What is read lies in blocks that are there. -/
theorem Rd.lt {w : World} {k : IntKind} {A : Option Addr} {xs : List Int} (h : Rd w k A xs) (hn : 0 < xs.length) : ∀ ad, A = some ad → ad.block < w.heap.size := by
  intro ad e
  obtain ⟨ad', e', hc⟩ := h.2 hn
  rw [e] at e'; cases e'
  have := World.block_lt_of_cell? w _ (hc 0 hn)
  rwa [add_block] at this
theorem Rd.drop {w : World} {k : IntKind} {ad : Addr} {xs : List Int} (h : Rd w k (some ad) xs) (i : Nat) : Rd w k (some (ad.add i)) (xs.drop i) := by
  refine ⟨by have := h.1; simp; omega, fun hn => ?_⟩
  simp at hn
  obtain ⟨ad', e', hc⟩ := h.2 (by omega)
  cases e'
  refine ⟨_, rfl, fun j hj => ?_⟩
  rw [add_add]
  simp at hj
  rw [hc (i + j) (by omega)]
  simp
theorem Rd.take {w : World} {k : IntKind} {A : Option Addr} {xs : List Int} (h : Rd w k A xs) (i : Nat) : Rd w k A (xs.take i) := by
  refine ⟨by have := h.1; simp; omega, fun hn => ?_⟩
  simp at hn
  obtain ⟨ad', e', hc⟩ := h.2 (by omega)
  refine ⟨_, e', fun j hj => ?_⟩
  simp at hj
  rw [hc j (by omega)]
  simp [List.getElem?_take, show j < i from by omega]
/-- A literal block of one's own. -/
theorem Rd.lit {w : World} {k : IntKind} {b : Nat} {t : TypeId} {xs : List Int} {fr : Nat × Nat} (h : w.heap[b]? = some (.cells (xs.map (Value.int k)).toArray t fr)) (hl : xs.length ≤ 9223372036854775807) : Rd w k (some ⟨b, 0, none⟩) xs := by
  refine ⟨hl, fun _ => ⟨_, rfl, fun j hj => ?_⟩⟩
  rw [add_plain]
  simp [World.cell?, h, List.getElem?_eq_getElem hj]

/-! ### New blocks -/
theorem heap_new (w : World) (o : Obj) : (w.alloc o).heap[w.heap.size]? = some o := by
  show (w.heap.push o)[w.heap.size]? = some o
  simp
theorem heap_old {w : World} {i : Nat} {x : Obj} (h : w.heap[i]? = some x) (o : Obj) : (w.alloc o).heap[i]? = some x := by
  have := (Array.getElem?_eq_some_iff.1 h).1
  show (w.heap.push o)[i]? = some x
  rw [Array.getElem?_push, if_neg (by omega)]; exact h
theorem heap_new2 (w : World) (o p : Obj) : ((w.alloc o).alloc p).heap[w.heap.size]? = some o := heap_old (heap_new w o) p
theorem heap_new2' (w : World) (o p : Obj) : ((w.alloc o).alloc p).heap[w.heap.size + 1]? = some p := by
  have := heap_new (w.alloc o) p
  rwa [World.size_alloc] at this
theorem lt_of_heap {w : World} {i : Nat} {x : Obj} (h : w.heap[i]? = some x) : i < w.heap.size := (Array.getElem?_eq_some_iff.1 h).1
theorem grownBy_alloc (w : World) (o : Obj) (r : Option Nat) : w.grownBy (w.alloc o) r := by
  have h := World.grownBy_alloc w o r
  exact h

theorem cell_row {w : World} {b : Nat} {cs : Array Value} {t : TypeId} {fr : Nat × Nat} (h : w.heap[b]? = some (.cells cs t fr)) (o : Nat) : w.cell? ⟨b, o, none⟩ = cs[o]? := by
  simp [World.cell?, h]
/-! ### A slice of one's own: one-cell elements -/
/-- v is nil, or begins a row of the call's own (block B or later), not frozen, whose cells are xs. -/
def Own (w : World) (B : Nat) (e : TypeId) (v : Value) (xs : List Value) : Prop := w.ownsRow B e 1 v xs.length xs
def ints (k : IntKind) (l : List Int) : List Value := l.map (Value.int k)
theorem ints_length (k : IntKind) (l : List Int) : (ints k l).length = l.length := by simp [ints]
theorem ints_append (k : IntKind) (l m : List Int) : ints k (l ++ m) = ints k l ++ ints k m := by simp [ints]
theorem Own.nil (w : World) (B : Nat) (e : TypeId) : Own w B e (.slice none 0 0) [] := ⟨by simp, .inl ⟨rfl, rfl⟩⟩
theorem Own.grown {w w1 : World} {B : Nat} {e : TypeId} {v : Value} {xs : List Value} (h : Own w B e v xs) {row : Option Nat} (hg : w.grownBy w1 row) (hne : v.ownBlock = none ∨ v.ownBlock ≠ row) : Own w1 B e v xs :=
  World.ownsRow.kept h hg hne
theorem Own.gr {w w1 : World} {B : Nat} {e : TypeId} {v : Value} {xs : List Value} (h : Own w B e v xs) (hg : Gr w w1) : Own w1 B e v xs :=
  h.grown (row := none) ⟨hg.b.os, hg.b.tape, hg.b.output, hg.b.size, fun i hi _ => hg.b.block i hi⟩ (by cases v.ownBlock <;> simp)
theorem Own.slice {w : World} {B : Nat} {e : TypeId} {v : Value} {xs : List Value} (h : Own w B e v xs) : ∃ A c, v = .slice A xs.length c ∧ xs.length ≤ c := by
  rcases h.2 with ⟨rfl, h0⟩ | ⟨g, cap, cur, rfl, _, _, hc, _⟩
  · exact ⟨none, 0, by rw [h0], by omega⟩
  · exact ⟨_, cap, rfl, hc⟩
theorem Own.block_ge {w : World} {B : Nat} {e : TypeId} {v : Value} {xs : List Value} (h : Own w B e v xs) (k : Nat) (hk : v.ownBlock = some k) : B ≤ k := by
  rcases h.2 with ⟨rfl, _⟩ | ⟨g, cap, cur, rfl, hb, _⟩
  · simp [Value.ownBlock] at hk
  · have : g = k := by simpa [Value.ownBlock] using hk
    omega
theorem Own.block_lt {w : World} {B : Nat} {e : TypeId} {v : Value} {xs : List Value} (h : Own w B e v xs) (k : Nat) (hk : v.ownBlock = some k) : k < w.heap.size := by
  rcases h.2 with ⟨rfl, _⟩ | ⟨g, cap, cur, rfl, hb, hh, _⟩
  · simp [Value.ownBlock] at hk
  · have : g = k := by simpa [Value.ownBlock] using hk
    subst this
    exact lt_of_heap hh
theorem Own.block_ne {w : World} {B : Nat} {e : TypeId} {v : Value} {xs : List Value} (h : Own w B e v xs) {g : Nat} (hg : g < B) : v.ownBlock = none ∨ v.ownBlock ≠ some g := by
  cases hv : v.ownBlock with
  | none => exact .inl rfl
  | some k => exact .inr fun e => by have := h.block_ge k hv; cases e; omega
theorem Own.lower {w : World} {B B' : Nat} {e : TypeId} {v : Value} {xs : List Value} (h : Own w B e v xs) (hB : B' ≤ B) : Own w B' e v xs := by
  refine ⟨h.1, ?_⟩
  rcases h.2 with h' | ⟨g, cap, cur, h1, h2, h3⟩
  · exact .inl h'
  · exact .inr ⟨g, cap, cur, h1, Nat.le_trans hB h2, h3⟩
/-- What one owns one can read. -/
theorem Own.reads {w : World} {B : Nat} {e : TypeId} {k : IntKind} {v : Value} {l : List Int} (h : Own w B e v (ints k l)) : ∃ A c, v = .slice A l.length c ∧ l.length ≤ c ∧ Rd w k A l := by
  obtain ⟨A, c, hv, hc⟩ := h.slice
  rw [ints_length] at hv hc
  refine ⟨A, c, hv, hc, ?_, ?_⟩
  · rcases h.2 with ⟨_, h0⟩ | ⟨g, cap, cur, _, _, _, h1, h2, _⟩
    · rw [ints_length] at h0; omega
    · rw [ints_length] at h1; unfold maxLen at h2; omega
  · intro h0
    rcases h.2 with ⟨_, h1⟩ | ⟨g, cap, cur, hv', _, hh, h1, h2, h3, h4⟩
    · rw [ints_length] at h1; omega
    · rw [hv] at hv'
      injection hv' with hA _ _
      refine ⟨_, hA, fun j hj => ?_⟩
      rw [add_plain]
      have hj' : j < (ints k l).length := by rw [ints_length]; exact hj
      have h5 : (ints k l)[j]? = some (.int k (l.getD j 0)) := by simp [ints, List.getElem?_eq_getElem hj]
      rw [← h4] at h5
      simp only [Nat.mul_one] at h5
      rw [List.getElem?_take_of_lt (by rw [ints_length]; exact hj)] at h5
      simp only [World.cell?, hh]
      simpa using h5
/-- A literal of one's own. -/
theorem Own.lit (w : World) (B : Nat) (e : TypeId) (xs : List Value) (hb : B ≤ w.heap.size) (hl : xs.length ≤ 9223372036854775807) : Own (w.alloc (.cells xs.toArray e)) B e (.slice (some ⟨w.heap.size, 0, none⟩) xs.length xs.length) xs := by
  refine ⟨by simp, .inr ⟨_, _, _, rfl, hb, heap_new _ _, Nat.le_refl _, by unfold maxLen; exact hl, by simp, by simp⟩⟩

section
variable {P : Program} {ops : Array Oper} {o : Oper} {a : Act} {Q : Exit → Act → World → Prop}
/-- 'append(v, y)' at the operation, v a slice of one's own; the variadic's box lies in block g. -/
theorem app1 {w : World} {K : Act → World → Prop} (s x : Operand) (t e : TypeId) (z : Value) (bytes : Nat)
    (ho : o.op = .call { callee := .builtin .append, args := #[s, x], argTypes := #[t, t] })
    (ht : P.underlying t = some (.slice e)) (hinfo : (P.info? e).map (fun i => (i.zero, i.size, i.bytes)) = some (some z, 1, bytes)) (hz : z.cells.size = 1) (hb0 : 0 < bytes)
    (B : Nat) (v : Value) (xs : List Value) (y : Value) (g : Nat) (fr : Nat × Nat) (hs : a.eval s = v) (hx : a.eval x = .slice (some ⟨g, 0, none⟩) 1 1) (h1 : y.oneCell' = true)
    (HO : Own w B e v xs) (hg : w.heap[g]? = some (.cells #[y] e fr)) (hB : B ≤ w.heap.size) (hl : (xs.length + 1) * bytes ≤ 140737488355328)
    (h : ∀ v1 w1, Own w1 B e v1 (xs ++ [y]) → w.grownBy w1 v.ownBlock → (v1.ownBlock = v.ownBlock ∨ v1.ownBlock = some w.heap.size) → K (a.put o.dst v1) w1) : o.wp P a w K Q := by
  obtain ⟨i0, hi, hzz⟩ := Option.map_eq_some_iff.1 hinfo
  simp only [Prod.mk.injEq] at hzz
  obtain ⟨hz0, hz1, hz2⟩ := hzz
  have hlen : xs.length + 1 ≤ 140737488355328 := Nat.le_trans (Nat.le_mul_of_pos_right _ hb0) hl
  obtain ⟨v1, w1, hr, h2, h3, _, h5⟩ := run_append_own_at (P := P) w B t o.type e i0 z 1 bytes ht hi hz0 hz1 hz2 hz (by omega) v xs.length xs HO ⟨g, 0, none⟩ 1 1 [y] (by simp)
    (World.news_of_block (cs := #[y]) hg) (by simpa using h1) (by simp only [maxLen]; omega) hl hB
  unfold Oper.wp execOp
  simp only [ho, resolve, invoke, builtin, Sem.run_bind, Sem.run_pure, Result.andThen_ok, List.map_toArray, List.map_cons, List.map_nil, hs, hx, hr]
  refine h v1 w1 ?_ h3 h5
  unfold Own
  simpa using h2
/-- The same at a step of a region that draws its order. -/
theorem step_app1 {w : World} {K : Act → World → Prop} {E : Prop} (hgd : o.guard = none) (s x : Operand) (t e : TypeId) (z : Value) (bytes : Nat)
    (ho : o.op = .call { callee := .builtin .append, args := #[s, x], argTypes := #[t, t] })
    (ht : P.underlying t = some (.slice e)) (hinfo : (P.info? e).map (fun i => (i.zero, i.size, i.bytes)) = some (some z, 1, bytes)) (hz : z.cells.size = 1) (hb0 : 0 < bytes)
    (B : Nat) (v : Value) (xs : List Value) (y : Value) (g : Nat) (fr : Nat × Nat) (hs : a.eval s = v) (hx : a.eval x = .slice (some ⟨g, 0, none⟩) 1 1) (h1 : y.oneCell' = true)
    (HO : Own w B e v xs) (hg : w.heap[g]? = some (.cells #[y] e fr)) (hB : B ≤ w.heap.size) (hl : (xs.length + 1) * bytes ≤ 140737488355328)
    (h : ∀ v1 w1, Own w1 B e v1 (xs ++ [y]) → w.grownBy w1 v.ownBlock → (v1.ownBlock = v.ownBlock ∨ v1.ownBlock = some w.heap.size) → K (a.put o.dst v1) w1) :
    if Region.wanted o (yielded ops a.tmps) = true then Oper.wp P o a w K Q else E := by
  have hw : Region.wanted o (yielded ops a.tmps) = true := by simp [Region.wanted, hgd]
  rw [if_pos hw]
  exact app1 s x t e z bytes ho ht hinfo hz hb0 B v xs y g fr hs hx h1 HO hg hB hl h
/-- The same at the list of a plain region's operations. -/
theorem wpList_app1 {w : World} {rest : List Oper} (hgd : o.guard = none) (s x : Operand) (t e : TypeId) (z : Value) (bytes : Nat)
    (ho : o.op = .call { callee := .builtin .append, args := #[s, x], argTypes := #[t, t] })
    (ht : P.underlying t = some (.slice e)) (hinfo : (P.info? e).map (fun i => (i.zero, i.size, i.bytes)) = some (some z, 1, bytes)) (hz : z.cells.size = 1) (hb0 : 0 < bytes)
    (B : Nat) (v : Value) (xs : List Value) (y : Value) (g : Nat) (fr : Nat × Nat) (hs : a.eval s = v) (hx : a.eval x = .slice (some ⟨g, 0, none⟩) 1 1) (h1 : y.oneCell' = true)
    (HO : Own w B e v xs) (hg : w.heap[g]? = some (.cells #[y] e fr)) (hB : B ≤ w.heap.size) (hl : (xs.length + 1) * bytes ≤ 140737488355328)
    (h : ∀ v1 w1, Own w1 B e v1 (xs ++ [y]) → w.grownBy w1 v.ownBlock → (v1.ownBlock = v.ownBlock ∨ v1.ownBlock = some w.heap.size) → wpList P ops Q rest (a.put o.dst v1) w1) :
    wpList P ops Q (o :: rest) a w :=
  wpList_plain hgd fun K hK => app1 s x t e z bytes ho ht hinfo hz hb0 B v xs y g fr hs hx h1 HO hg hB hl fun v1 w1 h1 h2 h3 => hK _ _ (h v1 w1 h1 h2 h3)
end
/-! ### append(v, ys...) -/
/-- Cells that are read: one-cell values. -/
def RdV (w : World) (A : Option Addr) (ys : List Value) : Prop :=
  ys.length ≤ 9223372036854775807 ∧ (0 < ys.length → ∃ ad, A = some ad ∧ ∀ j u, ys[j]? = some u → w.cell? (ad.add j) = some u)
theorem RdV.gr {w w' : World} {A : Option Addr} {ys : List Value} (h : RdV w A ys) (hg : Gr w w') : RdV w' A ys :=
  ⟨h.1, fun hn => by obtain ⟨ad, e, hc⟩ := h.2 hn; exact ⟨ad, e, fun j u hj => hg.cell (hc j u hj)⟩⟩
theorem Rd.toV {w : World} {k : IntKind} {A : Option Addr} {xs : List Int} (h : Rd w k A xs) : RdV w A (ints k xs) :=
  ⟨by rw [ints_length]; exact h.1, fun hn => by
    rw [ints_length] at hn
    obtain ⟨ad, e, hc⟩ := h.2 hn
    refine ⟨ad, e, fun j u hj => ?_⟩
    have hlt : j < xs.length := by
      rcases Nat.lt_or_ge j xs.length with h' | h'
      · exact h'
      · simp [ints, List.getElem?_eq_none h'] at hj
    rw [hc j hlt]
    simp [ints, List.getElem?_eq_getElem hlt] at hj
    simp [List.getElem?_eq_getElem hlt, hj]⟩
theorem Own.toV {w : World} {B : Nat} {e : TypeId} {v : Value} {xs : List Value} (h : Own w B e v xs) : ∃ A c, v = .slice A xs.length c ∧ xs.length ≤ c ∧ RdV w A xs := by
  obtain ⟨A, c, hv, hc⟩ := h.slice
  refine ⟨A, c, hv, hc, ?_, ?_⟩
  · rcases h.2 with ⟨_, h0⟩ | ⟨g, cap, cur, _, _, _, h1, h2, _⟩
    · omega
    · unfold maxLen at h2; omega
  · intro h0
    rcases h.2 with ⟨_, h1⟩ | ⟨g, cap, cur, hv', _, hh, h1, h2, h3, h4⟩
    · omega
    · rw [hv] at hv'
      injection hv' with hA _ _
      refine ⟨_, hA, fun j u hj => ?_⟩
      rw [add_plain]
      have hlt : j < xs.length := by
        rcases Nat.lt_or_ge j xs.length with h' | h'
        · exact h'
        · rw [List.getElem?_eq_none h'] at hj; cases hj
      rw [← h4] at hj
      simp only [Nat.mul_one] at hj
      rw [List.getElem?_take_of_lt hlt] at hj
      simp only [World.cell?, hh]
      simpa using hj
section
variable {P : Program} {ops : Array Oper} {o : Oper} {a : Act} {Q : Exit → Act → World → Prop}
theorem appN {w : World} {K : Act → World → Prop} (s x : Operand) (t e : TypeId) (z : Value) (bytes : Nat)
    (ho : o.op = .call { callee := .builtin .append, args := #[s, x], argTypes := #[t, t] })
    (ht : P.underlying t = some (.slice e)) (hinfo : (P.info? e).map (fun i => (i.zero, i.size, i.bytes)) = some (some z, 1, bytes)) (hz : z.cells.size = 1) (hb0 : 0 < bytes)
    (B : Nat) (v : Value) (xs ys : List Value) (A : Option Addr) (m c : Nat) (hs : a.eval s = v) (hx : a.eval x = .slice A m c) (hm : ys.length = m) (h1 : ∀ u ∈ ys, u.oneCell' = true)
    (HO : Own w B e v xs) (HR : RdV w A ys) (hB : B ≤ w.heap.size) (hl : (xs.length + m) * bytes ≤ 140737488355328)
    (h : ∀ v1 w1, Own w1 B e v1 (xs ++ ys) → w.grownBy w1 v.ownBlock → (v1.ownBlock = v.ownBlock ∨ v1.ownBlock = some w.heap.size) → K (a.put o.dst v1) w1) : o.wp P a w K Q := by
  obtain ⟨i0, hi, hzz⟩ := Option.map_eq_some_iff.1 hinfo
  simp only [Prod.mk.injEq] at hzz
  obtain ⟨hz0, hz1, hz2⟩ := hzz
  have hlen : xs.length + m ≤ 140737488355328 := Nat.le_trans (Nat.le_mul_of_pos_right _ hb0) hl
  have hrun : ∃ v1 w1, (Builtin.append_ #[t, t] o.type #[v, .slice A m c]).run P w = .ok v1 w1 ∧ Own w1 B e v1 (xs ++ ys) ∧ w.grownBy w1 v.ownBlock ∧ (v1.ownBlock = v.ownBlock ∨ v1.ownBlock = some w.heap.size) := by
    rcases A with _ | ad
    · have h0 : m = 0 := by
        rcases Nat.eq_zero_or_pos m with h0 | h0
        · exact h0
        · obtain ⟨ad, h, _⟩ := HR.2 (by omega)
          cases h
      subst h0
      obtain rfl : ys = [] := List.eq_nil_of_length_eq_zero hm
      refine ⟨v, w, ?_, by simpa using HO, World.grownBy.refl w _, .inl rfl⟩
      rcases HO.2 with ⟨rfl, hn⟩ | ⟨g, cap, cur, rfl, _, _, hnc, _⟩
      · simp [Builtin.append_, run_underlying ht, sizeOf, typeInfo, hi, Builtin.lenOf, Builtin.firstCells]
      · simp [Builtin.append_, run_underlying ht, sizeOf, typeInfo, hi, Builtin.lenOf, Builtin.firstCells, hnc, storeCells]
    · have hcells : ∀ j u, ys[j]? = some u → w.cell? (ad.add j) = some u := by
        intro j u hu
        have hj : j < ys.length := by
          rcases Nat.lt_or_ge j ys.length with h | h
          · exact h
          · rw [List.getElem?_eq_none h] at hu; cases hu
        obtain ⟨ad', h', hc⟩ := HR.2 (by omega)
        injection h' with h'
        subst h'
        exact hc j u hu
      obtain ⟨v1, w1, hr, h2, h3, _, h5⟩ := run_append_own_at (P := P) w B t o.type e i0 z 1 bytes ht hi hz0 hz1 hz2 hz (by omega) v xs.length xs HO ad m c ys (by omega) hcells h1 (by simp only [maxLen]; omega) hl hB
      refine ⟨v1, w1, hr, ?_, h3, h5⟩
      unfold Own
      rw [List.length_append, hm]
      exact h2
  obtain ⟨v1, w1, hr, hown, hg, hat⟩ := hrun
  unfold Oper.wp execOp
  simp only [ho, resolve, invoke, builtin, Sem.run_bind, Sem.run_pure, Result.andThen_ok, List.map_toArray, List.map_cons, List.map_nil, hs, hx, hr]
  exact h v1 w1 hown hg hat
theorem wpList_appN {w : World} {rest : List Oper} (hgd : o.guard = none) (s x : Operand) (t e : TypeId) (z : Value) (bytes : Nat)
    (ho : o.op = .call { callee := .builtin .append, args := #[s, x], argTypes := #[t, t] })
    (ht : P.underlying t = some (.slice e)) (hinfo : (P.info? e).map (fun i => (i.zero, i.size, i.bytes)) = some (some z, 1, bytes)) (hz : z.cells.size = 1) (hb0 : 0 < bytes)
    (B : Nat) (v : Value) (xs ys : List Value) (A : Option Addr) (m c : Nat) (hs : a.eval s = v) (hx : a.eval x = .slice A m c) (hm : ys.length = m) (h1 : ∀ u ∈ ys, u.oneCell' = true)
    (HO : Own w B e v xs) (HR : RdV w A ys) (hB : B ≤ w.heap.size) (hl : (xs.length + m) * bytes ≤ 140737488355328)
    (h : ∀ v1 w1, Own w1 B e v1 (xs ++ ys) → w.grownBy w1 v.ownBlock → (v1.ownBlock = v.ownBlock ∨ v1.ownBlock = some w.heap.size) → wpList P ops Q rest (a.put o.dst v1) w1) :
    wpList P ops Q (o :: rest) a w :=
  wpList_plain hgd fun K hK => appN s x t e z bytes ho ht hinfo hz hb0 B v xs ys A m c hs hx hm h1 HO HR hB hl fun v1 w1 h1 h2 h3 => hK _ _ (h v1 w1 h1 h2 h3)
end
theorem ints_one (k : IntKind) (l : List Int) : ∀ u ∈ ints k l, u.oneCell' = true := by
  intro u hu
  simp only [ints, List.mem_map] at hu
  obtain ⟨x, _, rfl⟩ := hu
  rfl
/-! ### An element of a slice of one's own: read, stored -/
theorem Own.form {w : World} {B : Nat} {e : TypeId} {v : Value} {xs : List Value} (h : Own w B e v xs) (hn : 0 < xs.length) :
    ∃ g c, v = .slice (some ⟨g, 0, none⟩) xs.length c ∧ xs.length ≤ c ∧ B ≤ g ∧ g < w.heap.size := by
  rcases h.2 with ⟨_, h0⟩ | ⟨g, cap, cur, hv, hb, hh, hc, _⟩
  · omega
  · exact ⟨g, cap, hv, hc, hb, lt_of_heap hh⟩
theorem Own.cell {w : World} {B g n c : Nat} {e : TypeId} {xs : List Value} (h : Own w B e (.slice (some ⟨g, 0, none⟩) n c) xs) (j : Nat) (u : Value) (hj : xs[j]? = some u) : w.cell? ⟨g, j, none⟩ = some u := by
  rcases h.2 with ⟨h0, _⟩ | ⟨g', cap, cur, hv, hb, hh, hc, _, hs, ht⟩
  · cases h0
  · injection hv with hA _ _
    injection hA with hA
    injection hA with hA
    subst hA
    have hlt : j < xs.length := by
      rcases Nat.lt_or_ge j xs.length with h' | h'
      · exact h'
      · rw [List.getElem?_eq_none h'] at hj; cases hj
    rw [← ht] at hj
    simp only [Nat.mul_one] at hj
    rw [List.getElem?_take_of_lt hlt] at hj
    simp only [World.cell?, hh]
    simpa using hj
theorem Own.frozen {w : World} {B g n c : Nat} {e : TypeId} {xs : List Value} (h : Own w B e (.slice (some ⟨g, 0, none⟩) n c) xs) (j : Nat) : w.frozen? ⟨g, j, none⟩ = false := by
  rcases h.2 with ⟨h0, _⟩ | ⟨g', cap, cur, hv, hb, hh, _⟩
  · cases h0
  · injection hv with hA _ _
    injection hA with hA
    injection hA with hA
    subst hA
    exact frozen_of_block hh
theorem Own.set {w : World} {B g n c : Nat} {e : TypeId} {xs : List Value} (h : Own w B e (.slice (some ⟨g, 0, none⟩) n c) xs) (hn : n = xs.length) (j : Nat) (u : Value) :
    Own (w.setCell ⟨g, j, none⟩ u) B e (.slice (some ⟨g, 0, none⟩) n c) (xs.set j u) := by
  subst hn
  have hs := World.ownsRow.stored h j u
  unfold Own
  rw [List.length_set]
  exact hs.1
end Go.Proofs.Ytjjpaghloaggeaa
