/- Links made of bytes; two rows of one's own beside each other. -/
import Derived.Test.YtjjpaghloaggeaaTrP
import Derived.Test.YtjjpaghloaggeaaStep
set_option linter.unusedVariables false
set_option linter.unusedSimpArgs false
namespace Go.Proofs.Ytjjpaghloaggeaa
open Go.RowKit
def Ne2 (v u : Value) : Prop := ∀ g, v.ownBlock = some g → u.ownBlock ≠ some g
theorem Ne2.symm {v u : Value} (h : Ne2 v u) : Ne2 u v := fun g h1 h2 => h g h2 h1
theorem Ne2.nil (u : Value) : Ne2 (.slice none 0 0) u := fun g h => by simp [Value.ownBlock] at h
section
variable {P : Program} {I J : Im} {w0 w : World} {r : Option Nat} {n : Nat} {ops : Array Oper} {Q : Exit → Act → World → Prop} {a : Act} {rest : List Oper} {N : Nat} {D : List Deferred} {l : Env} {t : Nat} {ty : TypeId} {pos : String} {af : Array Edge}
theorem s_app2 {α β : Type} {d : Kd α} {d2 : Kd β} {B B2 : Nat} {T e e2 : TypeId} {s x : Operand} {z : Value} {bytes : Nat} {v u : Value} {xs ys : List α} {zs : List β} {A : Option Addr} {m c : Nat} (H : Holds N D a l) (hs : lk l s = some v) (hx : lk l x = some (.slice A m c)) (hT : P.underlying T = some (.slice e)) (hinfo : (P.info? e).map (fun i => (i.zero, i.size, i.bytes)) = some (some z, d.n, bytes)) (hz : z.cells.size = d.n) (hd0 : 0 < d.n) (hb0 : 0 < bytes) (ht : Nat.blt t N = true)
    (hN : New I w0 J w) (HO : OwnK d J w B e v xs) (HQ : OwnK d2 J w B2 e2 u zs) (hne : Ne2 v u) (HE : Els d J A ys) (hm : ys.length = m) (hm0 : 0 < m) (hB0 : w0.heap.size ≤ B) (hB : B ≤ w.heap.size) (hl : (xs.length + m) * bytes ≤ 140737488355328)
    (k : ∀ v' w', OwnK d J w' B e v' (xs ++ ys) → OwnK d2 J w' B2 e2 u zs → Ne2 v' u → Keep J B w w' → New I w0 J w' → ∀ a', Holds N D a' ((t, v') :: l) → wpListIn (Fr r) n P ops Q rest a' w') :
    wpListIn (Fr r) n P ops Q (⟨some t, .call { callee := .builtin .append, args := #[s, x], argTypes := #[T, T] }, ty, pos, af, none⟩ :: rest) a w := by
  obtain ⟨i0, hi, hzz⟩ := Option.map_eq_some_iff.1 hinfo
  simp only [Prod.mk.injEq] at hzz
  obtain ⟨hz0, hz1, hz2⟩ := hzz
  have hlen : xs.length + m ≤ 140737488355328 := Nat.le_trans (Nat.le_mul_of_pos_right _ hb0) hl
  obtain ⟨ds, hr, hcs⟩ := HE.row'
  obtain ⟨b, o, rfl, hcell⟩ := hcs (by omega)
  have hnews : ∀ j u, ds[j]? = some u → w.cell? ((⟨b, o, none⟩ : Addr).add j) = some u := fun j u hu => by rw [add_plain]; exact hN.sat.cell (hcell j u hu)
  have hdl : ds.length = m * d.n := by rw [hr.length, hm]
  obtain ⟨cs, hrow, hR⟩ := HO.row
  obtain ⟨v', w', h1, h2, h3, _, h5⟩ := run_append_own_at (P := P) w B T ty e i0 z d.n bytes hT hi hz0 hz1 hz2 hz hd0 v xs.length cs hrow ⟨b, o, none⟩ m c ds hdl hnews hr.ones (by simp only [maxLen]; omega) hl hB
  have hK : Keep J B w w' := ⟨h3.os, h3.tape, h3.output, h3.size, fun k hk hc => h3.block k hk (fun e => by
    have h6 := HO.lt (g := k) e.symm
    have h7 := HO.im k e.symm
    rcases hc with hc | hc
    · omega
    · exact hc h7)⟩
  have hO : OwnK d J w' B e v' (xs ++ ys) := ⟨⟨cs ++ ds, by rw [List.length_append, hm]; exact h2, hR.append hr⟩, fun g hg => by
    rcases h5 with h5 | h5
    · exact HO.im g (by rw [← h5]; exact hg)
    · rw [h5] at hg; injection hg with hg; subst hg; exact hN.sat.fresh (Nat.le_refl _)⟩
  have hQ : OwnK d2 J w' B2 e2 u zs := by
    obtain ⟨cs2, g1, g2⟩ := HQ.row
    refine ⟨⟨cs2, g1.kept h3 ?_, g2⟩, HQ.im⟩
    cases hu : u.ownBlock with
    | none => exact .inl rfl
    | some g => exact .inr (fun e => hne g e.symm hu)
  have hne' : Ne2 v' u := by
    intro g hg
    rcases h5 with h5 | h5
    · exact hne g (by rw [← h5]; exact hg)
    · rw [h5] at hg
      injection hg with hg
      subst hg
      intro hu
      have := (HQ.lt hu).2
      omega
  refine wl1 (v := v') (w' := w') H (fun ev hev => ?_) rfl rfl rfl ht (fun a' H' => k v' w' hO hQ hne' hK (hK.new hN hB0) a' H')
  simp only [execOp, resolve, invoke, builtin, Sem.run_bind, Sem.run_pure, Result.andThen_ok, List.map_toArray, List.map_cons, List.map_nil, hev s _ hs, hev x _ hx, h1]
end
theorem OwnK.freezeB {α : Type} {d : Kd α} {I J : Im} {w0 w : World} {B : Nat} {e : TypeId} {v : Value} {xs : List α} (h : OwnK d J w B e v xs) (hN : New I w0 J w) (hB : w0.heap.size ≤ B) : ∃ K A c, New I w0 K w ∧ Im.le J K ∧ (∀ b, v.ownBlock ≠ some b → K b = J b) ∧ v = .slice A xs.length c ∧ xs.length ≤ c ∧ Els d K A xs := by
  obtain ⟨cs, h1, h2⟩ := h.row
  rcases h1.2 with ⟨rfl, h0⟩ | ⟨g, cap, cur, rfl, hb, hh, hc, hm, hs, ht⟩
  · have : xs = [] := List.eq_nil_of_length_eq_zero h0
    subst this
    exact ⟨J, none, 0, hN, Im.le.refl _, fun _ _ => rfl, rfl, Nat.le_refl _, Els.nil _ _ _⟩
  · have hJ : J g = none := h.im g rfl
    have hcur : cur = (cs ++ cur.toList.drop cs.length).toArray := by
      have e1 : cs = cur.toList.take cs.length := by rw [← ht, List.length_take]; simp [List.take_take]
      conv => lhs; rw [← Array.toArray_toList (xs := cur), ← List.take_append_drop cs.length cur.toList]
      rw [← e1]
    refine ⟨J.add g (.cells cur e (0, 0)), _, cap, hN.freeze (by omega) hJ hh, J.le_add _ hJ, fun b hb' => by simp only [Im.add]; rw [if_neg (fun e => hb' (by rw [e]; rfl))], rfl, hc, ?_⟩
    refine (h2.up (J.le_add _ hJ)).els (rest := cur.toList.drop cs.length) (e := e) (fr := (0, 0)) ?_ (by unfold maxLen at hm; omega)
    rw [← hcur]; exact Im.add_at _ _ _
/-- Both rows are written no more. -/
theorem freeze2 {α β : Type} {d : Kd α} {d2 : Kd β} {I J : Im} {w0 w : World} {B : Nat} {e e2 : TypeId} {v u : Value} {xs : List α} {zs : List β} (h : OwnK d J w B e v xs) (k : OwnK d2 J w B e2 u zs) (hne : Ne2 v u) (hN : New I w0 J w) (hB : w0.heap.size ≤ B) :
    ∃ K A c A' c', New I w0 K w ∧ Im.le J K ∧ (∀ b, b < B → K b = J b) ∧ v = .slice A xs.length c ∧ xs.length ≤ c ∧ Els d K A xs ∧ u = .slice A' zs.length c' ∧ zs.length ≤ c' ∧ Els d2 K A' zs := by
  obtain ⟨K, A, c, h1, h2, h3, h4, h5, h6⟩ := h.freezeB hN hB
  have hk : OwnK d2 K w B e2 u zs := by
    obtain ⟨cs, g1, g2⟩ := k.row
    exact ⟨⟨cs, g1, g2.up h2⟩, fun g hg => by rw [h3 g (fun e => hne g e hg)]; exact k.im g hg⟩
  obtain ⟨K2, A2, c2, k1, k2, k3, k4, k5, k6⟩ := hk.freezeB h1 hB
  refine ⟨K2, A, c, A2, c2, k1, h2.trans k2, fun b hb => ?_, h4, h5, h6.up k2, k4, k5, k6⟩
  rw [k3 b (fun e => by have := (hk.lt e).1; omega), h3 b (fun e => by have := (h.lt e).1; omega)]
/-! ### The link -/
def lkStep (b : List Int) (s : List (List Int) × List (List Int)) (i : Nat) : List (List Int) × List (List Int) :=
  if b.getD i 0 % 2 = 0 ∧ s.1.length < 32 then (s.1 ++ [b.take (i % 5)], s.2) else (s.1, s.2 ++ [b.take (i % 4)])
def lkLists (b : List Int) : Nat → List (List Int) × List (List Int)
  | 0 => ([], [])
  | n + 1 => lkStep b (lkLists b n) n
def glink (key : Int) (b : List Int) : Lk :=
  let s := lkLists b (min b.length 40)
  if 2 < b.length then
    (if b.getD 2 0 % 8 = 7 then ⟨key, s.1, 1000000000 - s.1.length - b.getD 0 0 % 2, s.2, 1000000000 - b.getD 1 0 % 2⟩ else ⟨key, s.1, b.getD 0 0, s.2, s.2.length + b.getD 1 0⟩)
  else ⟨key, s.1, 0, s.2, s.2.length⟩
theorem lkLists_len (b : List Int) : ∀ n, (lkLists b n).1.length + (lkLists b n).2.length = n ∧ (lkLists b n).1.length ≤ 32 ∧ (∀ d ∈ (lkLists b n).1, d.length ≤ 4) ∧ (∀ d ∈ (lkLists b n).2, d.length ≤ 4)
  | 0 => ⟨rfl, by simp [lkLists], by simp [lkLists], by simp [lkLists]⟩
  | n + 1 => by
    obtain ⟨h1, h2, h3, h4⟩ := lkLists_len b n
    simp only [lkLists, lkStep]
    split
    · rename_i h
      refine ⟨by simp; omega, by simp; omega, fun d hd => ?_, h4⟩
      rcases List.mem_append.1 hd with hd | hd
      · exact h3 d hd
      · rw [List.mem_singleton.1 hd]; simp; omega
    · refine ⟨by simp; omega, h2, h3, fun d hd => ?_⟩
      rcases List.mem_append.1 hd with hd | hd
      · exact h4 d hd
      · rw [List.mem_singleton.1 hd]; simp; omega
theorem getD_u8 {b : List Int} (hb : ∀ x ∈ b, InK .u8 x) (i : Nat) : 0 ≤ b.getD i 0 ∧ b.getD i 0 ≤ 255 := by
  by_cases h : i < b.length
  · have := hb _ (List.getElem_mem h)
    simp only [InK] at this
    rw [List.getD_eq_getElem?_getD, List.getElem?_eq_getElem h]
    exact this
  · rw [List.getD_eq_getElem?_getD, List.getElem?_eq_none (by omega)]; simp
theorem glink_valid {b : List Int} (hb : ∀ x ∈ b, InK .u8 x) (key : Int) : LkV (glink key b) := by
  obtain ⟨h1, h2, h3, h4⟩ := lkLists_len b (min b.length 40)
  have g0 := getD_u8 hb 0
  have g1 := getD_u8 hb 1
  have hm : min b.length 40 ≤ 40 := by omega
  have s1 : ∀ d ∈ (lkLists b (min b.length 40)).1, d.length ≤ 256 := fun d hd => by have := h3 d hd; omega
  have s2 : ∀ d ∈ (lkLists b (min b.length 40)).2, d.length ≤ 256 := fun d hd => by have := h4 d hd; omega
  unfold glink
  generalize lkLists b (min b.length 40) = st at *
  obtain ⟨so, si⟩ := st
  simp only at *
  split
  · split
    · exact ⟨h2, by dsimp only; omega, by dsimp only; omega, by dsimp only; omega, by dsimp only; omega, by dsimp only; omega, s1, s2⟩
    · exact ⟨h2, by dsimp only; omega, by dsimp only; omega, by dsimp only; omega, by dsimp only; omega, by dsimp only; omega, s1, s2⟩
  · exact ⟨h2, by dsimp only; omega, by dsimp only; omega, by dsimp only; omega, by dsimp only; omega, by dsimp only; omega, s1, s2⟩
theorem glink_key (key : Int) (b : List Int) : (glink key b).key = key := by
  unfold glink
  simp only
  split
  · split <;> rfl
  · rfl
end Go.Proofs.Ytjjpaghloaggeaa
