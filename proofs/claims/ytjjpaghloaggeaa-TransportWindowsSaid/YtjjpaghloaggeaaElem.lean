/- Rows of one's own that are written element by element; small facts; no program. -/
import Derived.Test.YtjjpaghloaggeaaRange
set_option linter.unusedVariables false
set_option linter.unusedSimpArgs false
namespace Go.Proofs.Ytjjpaghloaggeaa
open Go.RowKit
theorem Row.ints {q : IntKind} {J : Im} {cs : List Value} {xs : List Int} (h : Row (kInt q) J cs xs) : cs = xs.map (Value.int q) ∧ ∀ x ∈ xs, InK q x := by
  obtain ⟨vss, rfl, h2, h3⟩ := h
  have hv : vss = xs.map (fun x => [Value.int q x]) := by
    apply List.ext_getElem (by simpa using h2)
    intro j h4 h5
    obtain ⟨vs, h6, h7, _⟩ := h3 j (xs[j]'(by simpa using h5)) (List.getElem?_eq_getElem _)
    rw [List.getElem?_eq_getElem h4] at h6
    injection h6 with h6
    rw [h6, h7]; simp
  refine ⟨?_, fun x hx => ?_⟩
  · rw [hv]
    clear hv h2 h3
    induction xs with
    | nil => rfl
    | cons x xs ih => simp only [List.map_cons, List.flatten_cons, List.cons_append, List.nil_append, ih]
  · obtain ⟨j, hj, rfl⟩ := List.mem_iff_getElem.1 hx
    obtain ⟨vs, _, _, h7⟩ := h3 j _ (List.getElem?_eq_getElem hj)
    exact h7
/-- A row of one's own, as a block. -/
theorem OwnK.box {α : Type} {d : Kd α} {J : Im} {w : World} {B : Nat} {e : TypeId} {v : Value} {xs : List α} (h : OwnK d J w B e v xs) (hn : 0 < xs.length) :
    ∃ g c cs rest, v = .slice (some ⟨g, 0, none⟩) xs.length c ∧ xs.length ≤ c ∧ xs.length ≤ 9223372036854775807 ∧ B ≤ g ∧ Row d J cs xs ∧ Box J w g (cs ++ rest) e := by
  obtain ⟨cs, h1, h2⟩ := h.row
  rcases h1.2 with ⟨rfl, h0⟩ | ⟨g, cap, cur, rfl, hb, hh, hc, hm, hs, ht⟩
  · omega
  · have hcur : cur = (cs ++ cur.toList.drop cs.length).toArray := by
      have e1 : cs = cur.toList.take cs.length := by rw [← ht, List.length_take]; simp [List.take_take]
      conv => lhs; rw [← Array.toArray_toList (xs := cur), ← List.take_append_drop cs.length cur.toList]
      rw [← e1]
    refine ⟨g, cap, cs, cur.toList.drop cs.length, rfl, hc, by unfold maxLen at hm; omega, hb, h2, ⟨?_, h.im g rfl⟩⟩
    unfold Blk
    rw [hh, hcur]
    simp
/-- The block is written no more. -/
theorem New.freezeRow {α : Type} {d : Kd α} {I J : Im} {w0 w : World} {b : Nat} {cs rest : List Value} {e : TypeId} {xs : List α} (hN : New I w0 J w) (hB : Box J w b (cs ++ rest) e) (hR : Row d J cs xs) (hge : w0.heap.size ≤ b) (hl : xs.length ≤ 9223372036854775807) :
    ∃ K, New I w0 K w ∧ Els d K (some ⟨b, 0, none⟩) xs ∧ Im.le J K ∧ ∀ b', b' ≠ b → K b' = J b' := by
  refine ⟨_, hN.freezeBox hB hge, ?_, J.le_add _ hB.im, fun b' hb => by simp only [Im.add]; rw [if_neg hb]⟩
  exact (hR.up (J.le_add _ hB.im)).els (rest := rest) (e := e) (fr := (0, 0)) (Im.add_at _ _ _) hl
theorem Box.loadO {P : Program} {l : Env} {J : Im} {w : World} {b o n : Nat} {cs : List Value} {e : TypeId} {d : Option Nat} {t ty : TypeId} {pos : String} {af : Array Edge} {g : Option (Nat × Bool)} {x : Operand} (hS : Ag P t n) (hx : lk l x = some (.pointer (some ⟨b, o, none⟩))) (hB : Box J w b cs e) (hn : o + n ≤ cs.length) :
    Run1 P l ⟨d, .load t x, ty, pos, af, g⟩ w (.agg ((cs.drop o).take n).toArray) w := by
  have hl : ((cs.drop o).take n).length = n := by simp; omega
  refine r_loadA (cs := (cs.drop o).take n) (by rw [hl]; exact hS) hx (hB.aggAt (fun j u hj => ?_))
  rw [List.getElem?_take] at hj
  split at hj
  · rw [List.getElem?_drop] at hj; exact hj
  · cases hj
theorem Els.rowAt' {α : Type} {d : Kd α} {I : Im} {b o : Nat} {xs : List (List α)} (h : Els (kSl d) I (some ⟨b, o, none⟩) xs) {j : Nat} (hj : j < xs.length) : ∃ A c, I.cell? ⟨b, o + j * 1, none⟩ = some (.slice A xs[j].length c) ∧ xs[j].length ≤ c ∧ Els d I A xs[j] := by
  obtain ⟨vs, ⟨A, c, hv, hc, hE⟩, hat⟩ := h.at_ (List.getElem?_eq_getElem hj)
  have := hat 0 (.slice A xs[j].length c) (by rw [hv]; rfl)
  exact ⟨A, c, this, hc, hE⟩
theorem own_elem {q : IntKind} {xs : List Int} {rest : List Value} {i : Nat} (hi : i < xs.length) : (xs.map (Value.int q) ++ rest)[0 + i * 1]? = some (.int q xs[i]) := by
  rw [Nat.zero_add, Nat.mul_one, List.getElem?_append_left (by simpa using hi)]; simp [hi]
theorem own_set {q : IntKind} {xs : List Int} {rest : List Value} {i : Nat} {b : Int} (hi : i < xs.length) : (xs.map (Value.int q) ++ rest).set (0 + i * 1) (.int q b) = (xs.set i b).map (Value.int q) ++ rest := by
  rw [Nat.zero_add, Nat.mul_one, List.set_append_left _ _ (by simpa using hi), List.map_set]
theorem own_setIn {q : IntKind} {xs : List Int} {i : Nat} {b : Int} (h : ∀ x ∈ xs, InK q x) (hb : InK q b) : ∀ x ∈ xs.set i b, InK q x := fun x hx => by
  rcases List.mem_or_eq_of_mem_set hx with h1 | rfl
  · exact h x h1
  · exact hb
theorem xor8 {a y : Int} (ha : 0 ≤ a ∧ a ≤ 255) (hy : 0 ≤ y ∧ y ≤ 255) : (0 ≤ ibits .xor .u8 a y ∧ ibits .xor .u8 a y ≤ 255) ∧ (y ≠ 0 → ibits .xor .u8 a y ≠ a) := by
  have e : ibits .xor .u8 a y = ((BitVec.ofInt 8 a ^^^ BitVec.ofInt 8 y).toNat : Int) := by
    show IntKind.u8.wrap ((BitVec.ofInt 8 a ^^^ BitVec.ofInt 8 y).toNat : Int) = _
    have := (BitVec.ofInt 8 a ^^^ BitVec.ofInt 8 y).isLt
    exact InK.wrap (q := .u8) (by simp only [InK]; omega)
  rw [e]
  have h1 := (BitVec.ofInt 8 a ^^^ BitVec.ofInt 8 y).isLt
  refine ⟨by omega, fun hne h => hne ?_⟩
  have h2 : (BitVec.ofInt 8 a ^^^ BitVec.ofInt 8 y) = BitVec.ofInt 8 a := by
    apply BitVec.eq_of_toNat_eq
    rw [BitVec.toNat_ofInt, show ((2 ^ 8 : Nat) : Int) = 256 from rfl, Int.emod_eq_of_lt ha.1 (by omega)]
    omega
  have h3 : BitVec.ofInt 8 y = 0#8 := by
    have h4 := congrArg (fun z => BitVec.ofInt 8 a ^^^ z) h2
    simp only [← BitVec.xor_assoc, BitVec.xor_self, BitVec.zero_xor] at h4
    exact h4
  have h5 := congrArg BitVec.toNat h3
  rw [BitVec.toNat_ofInt, show ((2 ^ 8 : Nat) : Int) = 256 from rfl, Int.emod_eq_of_lt hy.1 (by omega)] at h5
  simp at h5
  omega
/-- A literal in a region that draws its order: it stays. -/
theorem OpOK.litM {α : Type} {P : Program} {l : Env} {w : World} {d : Option Nat} {t ty : TypeId} {pos : String} {af : Array Edge} {g : Option (Nat × Bool)} {dk : Kd α} {J : Im} {xs : List α} {e : TypeId} {c : Nat} {zv : Value} {ps : List (Nat × Operand)} {cs : List Value} (hT : P.underlying t = some (.slice e)) (hs : Sz P e 1) (hz : Zv P e zv) (hp : parts l ps = some (enumL 0 cs)) (hc : cs.length = c) (hsmall : Nat.ble c 16777216 = true) (h1 : ∀ v ∈ cs, v.oneCell' = true)
    (hS : Sat J w) (hR : Row dk J cs xs) (hl : xs.length ≤ 9223372036854775807) :
    OpOK P l ⟨d, .buildSlice t c ps.toArray, ty, pos, af, g⟩ w (fun u q w' => ∃ K, Part J q K w' ∧ ∃ b, u = .slice (some ⟨b, 0, none⟩) c c ∧ Els dk K (some ⟨b, 0, none⟩) xs) := by
  have hf := hS.fresh (Nat.le_refl w.heap.size)
  refine ⟨_, _, r_lit1 hT hs hz hp hc hsmall h1, (Gr.refl _).alloc _, J.add w.heap.size (.cells cs.toArray e (0, 0)), ⟨J.le_add _ hf, ((New.refl hS).lit _).sat, fun b h2 h3 => ?_⟩, _, rfl, ?_⟩
  · simp only [Im.add] at h3
    split at h3
    · rename_i he; subst he; simp
    · exact absurd h2 h3
  · exact (hR.up (J.le_add _ hf)).els (rest := []) (e := e) (fr := (0, 0)) (by rw [List.append_nil]; exact Im.add_at _ _ _) hl
end Go.Proofs.Ytjjpaghloaggeaa
