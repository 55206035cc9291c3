/- The contracts of the first engine in the words of the second. -/
import Derived.Test.YtlikefnngkokhaaElem
import Derived.Test.YtlikefnngkokhaaDigR
import Derived.Test.YtlikefnngkokhaaEx
import Derived.Test.YtlikefnngkokhaaSides
import Derived.Test.YtlikefnngkokhaaSidesLaw
import Derived.Test.YtlikefnngkokhaaCheckPure
set_option linter.unusedVariables false
set_option linter.unusedSimpArgs false
namespace Go.Proofs.Ytlikefnngkokhaa
open Go.RowKit
theorem OwnK.ofOwn {q : IntKind} {I : Im} {w w' : World} {e : TypeId} {v : Value} {l : List Int} (hS : Sat I w) (h : Own w' w.heap.size e v (ints q l)) (hk : ∀ x ∈ l, InK q x) : OwnK (kInt q) I w' w.heap.size e v l := by
  have h' : w'.ownsRow w.heap.size e (kInt q).n v l.length (ints q l) := by
    have := h
    unfold Own at this
    rw [ints_length] at this
    exact this
  exact ⟨⟨_, h', Row.nums hk⟩, fun g hg => hS.fresh (h'.lt g hg).1⟩
theorem Row.bools {J : Im} {xs : List Bool} : Row kBool J (xs.map Value.bool) xs := by
  refine ⟨xs.map (fun x => [Value.bool x]), ?_, by simp, fun j x hj => ⟨[.bool x], by simp [hj], rfl⟩⟩
  induction xs with
  | nil => rfl
  | cons x xs ih => simp [ih]
theorem OwnK.ofOwnB {I : Im} {w w' : World} {e : TypeId} {v : Value} {l : List Bool} (hS : Sat I w) (h : Own w' w.heap.size e v (bools l)) : OwnK kBool I w' w.heap.size e v l := by
  have h' : w'.ownsRow w.heap.size e kBool.n v l.length (bools l) := by
    have := h
    unfold Own at this
    rw [bools_length] at this
    exact this
  exact ⟨⟨_, h', Row.bools⟩, fun g hg => hS.fresh (h'.lt g hg).1⟩
/-- A slice that a call has made, and that is written no more. -/
def Fresh {α : Type} (d : Kd α) (I : Im) (w : World) (xs : List α) (v : Value) (w' : World) : Prop :=
  ∃ J, New I w J w' ∧ ∃ A c, v = .slice A xs.length c ∧ xs.length ≤ c ∧ Els d J A xs
theorem OwnK.fresh {α : Type} {d : Kd α} {I : Im} {w W : World} {e : TypeId} {v : Value} {xs : List α} (h : OwnK d I W w.heap.size e v xs) (hN : New I w I W) : Fresh d I w xs v W := by
  obtain ⟨K, A, c, hK, _, _, hv, hc, hE⟩ := h.freeze hN (Nat.le_refl _)
  exact ⟨K, hK, A, c, hv, hc, hE⟩
theorem InK_of_Us {l : List Int} (h : Us l) : ∀ x ∈ l, InK .u64 x := fun x hx => by have := h x hx; simp only [InK, U] at *; omega
theorem Us_of_InK {l : List Int} (h : ∀ x ∈ l, InK .u64 x) : Us l := fun x hx => by have := h x hx; simp only [InK, U] at *; omega
section
variable {I : Im} {w : World} {A B : Option Addr} {l m : List Int} {c c' : Nat}
theorem br_ex (hS : Sat I w) : Ret Try.prog 9 [] w (fun v w' => v = .bool true ∧ Gr w w') := Ret.ofCalls (examples_any w)
theorem br_root (hS : Sat I w) (h : Els (kInt .u64) I A l) (hl : l.length ≤ 1048576) (hc : l.length ≤ c) : Ret Try.prog 13 [.slice A l.length c] w (fun v w' => v = .int .u64 (droot l) ∧ Gr w w') :=
  Ret.ofCalls (root_any l.length A l c w (Nat.le_refl _) (by omega) hc (h.rd hS))
theorem br_join {a b : Int} (hS : Sat I w) : Ret Try.prog 21 [.int .u64 a, .int .u64 b] w (fun v w' => v = .int .u64 (djoin a b) ∧ Gr w w') := Ret.ofCalls (join_any a b w)
theorem br_rjoin {a b : Int} (hS : Sat I w) : Ret Try.prog 22 [.int .u64 a, .int .u64 b] w (fun v w' => v = .int .u64 (djoin a b) ∧ Gr w w') := Ret.ofCalls' (rjoin_any a b w)
theorem br_up {a b : Int} {s : Bool} (hS : Sat I w) : Ret Try.prog 16 [.int .u64 a, .int .u64 b, .bool s] w (fun v w' => v = .int .u64 (dup a b s) ∧ Gr w w') := Ret.ofCalls' (up_any a b s w)
theorem br_step {a b : Int} (hS : Sat I w) : Ret Try.prog 28 [.int .u64 a, .int .u64 b] w (fun v w' => v = .int .u64 (dstep a b) ∧ Gr w w') := Ret.ofCalls' (step_any a b w)
theorem br_same {n n' : Nat} (hS : Sat I w) (hA : Els (kInt .u64) I A l) (hB : Els (kInt .u64) I B m) (hn : l.length = n) (hn' : m.length = n') : Ret Try.prog 14 [.slice A n c, .slice B n' c'] w (fun v w' => v = .bool (decide (l = m)) ∧ Gr w w') := by
  subst hn hn'; exact Ret.ofCalls (same_any A B l m c c' w (hA.rd hS) (hB.rd hS))
theorem br_check {root n i dd : Int} (hS : Sat I w) (h : Els (kInt .u64) I A l) (hc : l.length ≤ c) : Ret Try.prog 12 [.int .u64 root, .agg #[.int .i64 n, .slice A l.length c], .agg #[.int .i64 i, .int .u64 dd]] w (fun v w' => v = .int .i64 (dcheck root n i dd l) ∧ Gr w w') :=
  Ret.ofCalls (lcheck_any root n i dd A l c w hc (h.rd hS))
theorem br_grown {n : Nat} {z : Int} (hS : Sat I w) (h : Els (kInt .u64) I A l) (hc : l.length ≤ c) (hn : n ≤ 1048576) (hz : z = (n : Int)) : Ret Try.prog 10 [.slice A l.length c, .int .i64 z] w (Fresh (kInt .u64) I w (dgrown l n)) := by
  subst hz
  refine Calls.mono (grown_any A l c n w hn hc (h.rd hS)) fun e w' ⟨v, he, ho, hg⟩ => ⟨v, he, ?_⟩
  exact (OwnK.ofOwn hS ho (InK_of_Us (dgrown_Us (Us_of_InK h.inK) n))).fresh ((New.refl hS).ofGr hg)
theorem br_sides {n i : Nat} {z y : Int} (hS : Sat I w) (hn : n ≤ 1048576) (hi : i < n) (hz : z = (n : Int)) (hy : y = (i : Int)) : Ret Try.prog 15 [.int .i64 z, .int .i64 y] w (Fresh kBool I w (dsides n i)) := by
  subst hz hy
  refine Calls.mono (sides_any n i w hn hi) fun e w' ⟨v, he, ho, hg⟩ => ⟨v, he, ?_⟩
  exact (OwnK.ofOwnB hS ho).fresh ((New.refl hS).ofGr hg)
/-- What Path answers at any index. -/
noncomputable def dpathI (l : List Int) (i : Int) : List Int := if 0 ≤ i ∧ i < l.length then dpath l i.toNat else []
def dpathE (l : List Int) (i : Int) : Int := if 0 ≤ i ∧ i < l.length then 0 else 1
theorem br_pathOf {i : Int} (hS : Sat I w) (h : Els (kInt .u64) I A l) (hl : l.length ≤ 1048576) (hc : l.length ≤ c) :
    Ret Try.prog 11 [.slice A l.length c, .int .i64 i] w (fun v w' => ∃ J, New I w J w' ∧ ∃ A' c', v = .agg #[.slice A' (dpathI l i).length c', .int .i64 (dpathE l i)] ∧ (dpathI l i).length ≤ c' ∧ Els (kInt .u64) J A' (dpathI l i)) := by
  by_cases hi : 0 ≤ i ∧ i < l.length
  · obtain ⟨k, rfl⟩ := Int.eq_ofNat_of_zero_le hi.1
    have e1 : dpathI l (k : Int) = dpath l k := by unfold dpathI; rw [if_pos hi]; rfl
    have e2 : dpathE l (k : Int) = 0 := if_pos hi
    rw [e1, e2]
    refine Calls.mono (pathOf_any A l c k w hl hc (by omega) (h.rd hS)) fun e w' ⟨v, he, ho, hg⟩ => ⟨_, he, ?_⟩
    obtain ⟨J, hN, A', c', hv, hcc, hE⟩ := (OwnK.ofOwn hS ho (InK_of_Us (dpath_Us _ _ _ (Nat.le_refl _) (Us_of_InK h.inK)))).fresh ((New.refl hS).ofGr hg)
    exact ⟨J, hN, A', c', by rw [hv], hcc, hE⟩
  · have e1 : dpathI l i = [] := if_neg hi
    have e2 : dpathE l i = 1 := if_neg hi
    rw [e1, e2]
    refine Calls.mono (pathOf_err A l.length c i w (by omega)) fun e w' ⟨he, hg⟩ => ⟨_, he, I, (New.refl hS).ofGr hg, none, 0, rfl, Nat.le_refl _, Els.nil _ _ _⟩
end
end Go.Proofs.Ytlikefnngkokhaa
