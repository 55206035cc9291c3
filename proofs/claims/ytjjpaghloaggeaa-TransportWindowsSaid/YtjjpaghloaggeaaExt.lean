/- More single operations: copy, slices against nil, make in a region that draws, calls of function values; no program. -/
import Derived.Test.YtjjpaghloaggeaaElem
set_option linter.unusedVariables false
set_option linter.unusedSimpArgs false
namespace Go.Proofs.Ytjjpaghloaggeaa
open Go.RowKit
section
variable {P : Program} {l : Env} {w : World} {d : Option Nat} {ty : TypeId} {pos : String} {af : Array Edge} {g : Option (Nat × Bool)} {x y z : Operand} {t t' : TypeId}
theorem run_eqN {A : Option Addr} {n c : Nat} {e : TypeId} (hT : P.underlying t = some (.slice e)) (w : World) : (Op.equal t (.slice A n c) (.slice none 0 0)).run P w = .ok A.isNone w := by
  show (Op.equalIn (9999 + 1) t _ _).run P w = _
  generalize 9999 = m
  cases A with
  | none => simp only [Op.equalIn, Sem.run_bind, run_underlying hT, Result.andThen_ok, Sem.run_pure]
  | some a => simp only [Op.equalIn, Sem.run_bind, run_underlying hT, Result.andThen_ok, Sem.run_pure]; rfl
/-- A slice against nil. -/
theorem r_nilS {A : Option Addr} {n c : Nat} {e : TypeId} (hT : P.underlying t = some (.slice e)) (hx : lk l x = some (.slice A n c)) (hy : lk l y = some (.slice none 0 0)) : Run1 P l ⟨d, .binOp .eql t x y t', ty, pos, af, g⟩ w (.bool A.isNone) w :=
  fun ev h => by
    simp only [execOp, h x _ hx, h y _ hy, Sem.run_bind, eqGuard, Sem.run_pure, Result.andThen_ok]
    show ((binOp .eql t (.slice A n c) (.slice none 0 0)).run P w).andThen _ = _
    rw [show binOp .eql t (.slice A n c) (.slice none 0 0) = (do pure (.bool (← Op.equal t (.slice A n c) (.slice none 0 0)))) from by unfold binOp; rfl]
    simp only [Sem.run_bind, run_eqN hT, Result.andThen_ok, Sem.run_pure]
theorem spliceL_eq : ∀ (vs pre cs : List Value), cs.length = vs.length → spliceL (pre ++ cs) pre.length vs = pre ++ vs
  | [], pre, cs, h => by
    have : cs = [] := List.eq_nil_of_length_eq_zero h
    simp [spliceL, this]
  | v :: vs, pre, [], h => by simp at h
  | v :: vs, pre, c :: cs, h => by
    have e1 : (pre ++ c :: cs).set pre.length v = (pre ++ [v]) ++ cs := by
      rw [List.set_append_right _ _ (Nat.le_refl _), Nat.sub_self]; simp
    rw [spliceL, e1]
    have := spliceL_eq vs (pre ++ [v]) cs (by simpa using h)
    rw [show (pre ++ [v]).length = pre.length + 1 by simp] at this
    rw [this]; simp
theorem spliceL_full {vs cs : List Value} (h : cs.length = vs.length) : spliceL cs 0 vs = vs := by
  have := spliceL_eq vs [] cs h
  simpa using this
/-- copy into a block of one's own, of elements of one cell, as many as there are. -/
theorem r_copy {α : Type} {dk : Kd α} {J : Im} {b n c c2 : Nat} {A : Option Addr} {cs : List Value} {xs : List α} {e e' : TypeId} (hT : P.underlying t = some (.slice e')) (hs : Sz P e' 1) (hd : dk.n = 1) (hx : lk l x = some (.slice (some ⟨b, 0, none⟩) n c)) (hy : lk l y = some (.slice A n c2)) (hS : Sat J w) (hE : Els dk J A xs) (hn : xs.length = n) (hB : Box J w b cs e) (hcs : cs.length = n) :
    ∃ vs w', Run1 P l ⟨d, .call { callee := .builtin .copy, args := #[x, y], argTypes := #[t, t'] }, ty, pos, af, g⟩ w (.int .i64 (n : Int)) w' ∧ Row dk J vs xs ∧ vs.length = n ∧ Box J w' b vs e ∧ w' = setB w b vs e := by
  obtain ⟨vs, hR, hc⟩ := hE.row'
  have hvl : vs.length = n := by rw [hR.length, hd, hn, Nat.mul_one]
  refine ⟨vs, setB w b vs e, fun ev h => ?_, hR, hvl, hB.set, rfl⟩
  have hload : (loadCells (A.getD ⟨0, 0, none⟩) n).run P w = .ok vs.toArray w ∨ n = 0 := by
    rcases Nat.eq_zero_or_pos n with h0 | h0
    · exact .inr h0
    · left
      obtain ⟨b', o', rfl, hcell⟩ := hc (by omega)
      rw [← hvl]
      have := run_loadCells_list (P := P) w ⟨b', o', none⟩ vs (fun j v hv => by rw [add_plain]; exact hS.cell (hcell j v hv))
      simpa using this
  have hst := run_storeCells (P := P) 0 vs 0 cs w hB.blk (by omega) hR.ones
  have hset : (if vs = [] then w else setB w b (spliceL cs (0 + 0) vs) e) = setB w b vs e := by
    split
    · rename_i h0
      subst h0
      have : cs = [] := List.eq_nil_of_length_eq_zero (by rw [hcs, ← hvl]; rfl)
      subst this
      exact (setO_self hB.blk).symm
    · rw [spliceL_full (by omega)]
  rw [hset] at hst
  have hmin : Nat.min n n = n := Nat.min_self n
  rcases Nat.eq_zero_or_pos n with h0 | h0
  · subst h0
    have hv0 : vs = [] := List.eq_nil_of_length_eq_zero hvl
    subst hv0
    simp only [execOp, resolve, invoke, builtin, Sem.run_bind, Sem.run_pure, Result.andThen_ok, List.map_toArray, List.map_cons, List.map_nil, h x _ hx, h y _ hy]
    have hc0 : cs = [] := List.eq_nil_of_length_eq_zero hcs
    subst hc0
    have hw : setB w b [] e = w := setO_self hB.blk
    rw [hw]
    rcases A with _ | a <;> simp [Builtin.copy_, run_underlying hT, Builtin.lenOf, Builtin.firstCells, hs w, loadCells, loadCellsFrom, storeCells, goInt, go_sem]
  · obtain ⟨b', o', rfl, hcell⟩ := hc (by omega)
    have hl := hload.resolve_right (by omega)
    simp only [Option.getD_some, loadCells] at hl
    simp only [execOp, resolve, invoke, builtin, Sem.run_bind, Sem.run_pure, Result.andThen_ok, List.map_toArray, List.map_cons, List.map_nil, h x _ hx, h y _ hy]
    simp [Builtin.copy_, run_underlying hT, Builtin.lenOf, Builtin.firstCells, hs w, hmin, loadCells, go_sem]
    rw [hl]
    simp [hst, go_sem]
/-- make, in a region that draws its order. -/
theorem OpOK.make {e : TypeId} {n bytes : Nat} {zv : Value} {q q' : IntKind} (hT : P.underlying t = some (.slice e)) (hinfo : (P.info? e).map (fun i => (i.zero, i.size, i.bytes)) = some (some zv, 1, bytes)) (hz1 : zv.oneCell' = true) (hx : lk l x = some (.int q (n : Int))) (hy : lk l y = some (.int q' (n : Int))) (hn : n ≤ 16777216) (hb : Nat.ble bytes 1024 = true) :
    OpOK P l ⟨d, .makeSlice t x y, ty, pos, af, g⟩ w (fun v q w' => v = .slice (some ⟨q.1, 0, none⟩) n n ∧ q.1 < q.2 ∧ Blk w' q.1 (List.replicate n zv) e) :=
  ⟨_, _, r_make1 hT hinfo hz1 hx hy hn hb, (Gr.refl _).alloc _, rfl, by simp, Blk.new _ _ _⟩
end
section
variable {r : Option Nat} {n : Nat} {P : Program} {ops : Array Oper} {Q : Exit → Act → World → Prop} {a : Act} {w : World} {rest : List Oper} {N : Nat} {D : List Deferred} {l : Env} {t : Nat} {ty : TypeId} {pos : String} {af : Array Edge} {I J : Im} {w0 : World}
theorem s_copy {α : Type} {dk : Kd α} {T T' : TypeId} {x y : Operand} {b m c c2 : Nat} {A : Option Addr} {cs : List Value} {xs : List α} {e e' : TypeId} (H : Holds N D a l) (hT : P.underlying T = some (.slice e')) (hs : Sz P e' 1) (hd : dk.n = 1) (hx : lk l x = some (.slice (some ⟨b, 0, none⟩) m c)) (hy : lk l y = some (.slice A m c2)) (ht : Nat.blt t N = true) (hN : New I w0 J w)
    (hE : Els dk J A xs) (hn : xs.length = m) (hB : Box J w b cs e) (hcs : cs.length = m) (hge : w0.heap.size ≤ b)
    (k : ∀ vs w', Row dk J vs xs → vs.length = m → New I w0 J w' → Box J w' b vs e → w' = setB w b vs e → ∀ a', Holds N D a' ((t, .int .i64 (m : Int)) :: l) → wpListIn (Fr r) n P ops Q rest a' w') :
    wpListIn (Fr r) n P ops Q (⟨some t, .call { callee := .builtin .copy, args := #[x, y], argTypes := #[T, T'] }, ty, pos, af, none⟩ :: rest) a w := by
  obtain ⟨vs, w', hr, h1, h2, h3, h4⟩ := r_copy (d := some t) (ty := ty) (pos := pos) (af := af) (g := none) (t' := T') hT hs hd hx hy hN.sat hE hn hB hcs
  exact wl1 H hr rfl rfl rfl ht (fun a' H' => k vs w' h1 h2 (by rw [h4]; exact hN.setBox hB hge) h3 h4 a' H')
end
section
variable {N : Nat} {D : List Deferred} {a : Act} {l : Env} {P : Program} {w : World}
theorem run_resC {t T b : Nat} {cs : List Value} {e : TypeId} {J : Im} (H : Holds N D a l) (hv : look l t = some (.pointer (some ⟨b, 0, none⟩))) (hb : Box J w b cs e) (hS : Ag P T cs.length) :
    (do loadVar T (← asAddr (a.tmps.getD t undef)) : Sem Value).run P w = .ok (.agg cs.toArray) w := by
  have h1 := H.h t _ hv
  have := run_loadCellsFrom (P := P) (w := w) ⟨b, 0, none⟩ cs 0 #[] (fun j u hu => by
    have := hb.cell (o := j) hu
    simp only [Addr.add, Nat.zero_add]; split <;> rename_i hj <;> simp_all)
  simp only [h1, asAddr, loadVar, Sem.run_bind, Sem.run_pure, Result.andThen_ok, (hS w).1, (hS w).2, loadCells, if_true, this]
  simp
/-- A result in memory and one in a slot. -/
theorem resCT {fn : Func} {t T b u : Nat} {cs : List Value} {e : TypeId} {J : Im} {v : Value} (hr : fn.results = #[.cell t T, .tmp u]) (H : Holds N D a l) (hv : look l t = some (.pointer (some ⟨b, 0, none⟩))) (hb : Box J w b cs e) (hS : Ag P T cs.length) (hu : look l u = some v) : (results fn a.tmps).run P w = .ok (.tuple #[.agg cs.toArray, v]) w := by
  have h1 := run_resC H hv hb hS
  have h2 := H.h u _ hu
  rw [Array.getD_eq_getD_getElem?] at h1 h2
  simp only [results, hr, Array.mapM_eq_mapM_toList, List.mapM_cons, List.mapM_nil, Array.getD_eq_getD_getElem?, Sem.run_bind, Sem.run_pure, Sem.run_map, h2]
  simp only [Sem.run_bind] at h1
  simp [h1]
theorem resCC {fn : Func} {t T b t' T' b' : Nat} {cs cs' : List Value} {e e' : TypeId} {J J' : Im} (hr : fn.results = #[.cell t T, .cell t' T']) (H : Holds N D a l) (hv : look l t = some (.pointer (some ⟨b, 0, none⟩))) (hb : Box J w b cs e) (hS : Ag P T cs.length) (hv' : look l t' = some (.pointer (some ⟨b', 0, none⟩))) (hb' : Box J' w b' cs' e') (hS' : Ag P T' cs'.length) : (results fn a.tmps).run P w = .ok (.tuple #[.agg cs.toArray, .agg cs'.toArray]) w := by
  have h1 := run_resC H hv hb hS
  have h2 := run_resC H hv' hb' hS'
  rw [Array.getD_eq_getD_getElem?] at h1 h2
  simp only [results, hr, Array.mapM_eq_mapM_toList, List.mapM_cons, List.mapM_nil, Array.getD_eq_getD_getElem?, Sem.run_bind, Sem.run_pure, Sem.run_map]
  simp only [Sem.run_bind] at h1 h2
  simp [h1, h2]
theorem resTCT {fn : Func} {s t T b u : Nat} {cs : List Value} {e : TypeId} {J : Im} {v x : Value} (hr : fn.results = #[.tmp s, .cell t T, .tmp u]) (H : Holds N D a l) (hx : look l s = some x) (hv : look l t = some (.pointer (some ⟨b, 0, none⟩))) (hb : Box J w b cs e) (hS : Ag P T cs.length) (hu : look l u = some v) : (results fn a.tmps).run P w = .ok (.tuple #[x, .agg cs.toArray, v]) w := by
  have h1 := run_resC H hv hb hS
  have h2 := H.h u _ hu
  have h3 := H.h s _ hx
  rw [Array.getD_eq_getD_getElem?] at h1 h2 h3
  simp only [results, hr, Array.mapM_eq_mapM_toList, List.mapM_cons, List.mapM_nil, Array.getD_eq_getD_getElem?, Sem.run_bind, Sem.run_pure, Sem.run_map, h2, h3]
  simp only [Sem.run_bind] at h1
  simp [h1]
end
/-! ### literals and appends in a region that draws, by their cells -/
def kRaw : Kd Value where
  n := 1
  rep := fun _ vs x => vs = [x] ∧ x.oneCell' = true
  up := fun _ h => h
  len := fun h => by rw [h.1]; rfl
  one := fun h v hv => by rw [h.1] at hv; simp at hv; subst hv; exact h.2
theorem Row.raw {J : Im} {cs : List Value} (h : ∀ v ∈ cs, v.oneCell' = true) : Row kRaw J cs cs := by
  refine ⟨cs.map (fun x => [x]), ?_, by simp, fun j x hj => ⟨[x], by simp [hj], rfl, h x (List.mem_of_getElem? hj)⟩⟩
  clear h
  induction cs with
  | nil => rfl
  | cons x xs ih => simp [← ih]
theorem Row.rawEq {J : Im} {cs xs : List Value} (h : Row kRaw J cs xs) : cs = xs := by
  obtain ⟨vss, rfl, h2, h3⟩ := h
  have hv : vss = xs.map (fun x => [x]) := by
    apply List.ext_getElem (by simpa using h2)
    intro j h4 h5
    obtain ⟨vs, h6, h7, _⟩ := h3 j (xs[j]'(by simpa using h5)) (List.getElem?_eq_getElem _)
    rw [List.getElem?_eq_getElem h4] at h6
    injection h6 with h6
    rw [h6, h7]; simp
  rw [hv]
  clear hv h2 h3
  induction xs with
  | nil => rfl
  | cons x xs ih => simp [ih]
theorem els_raw {w : World} {A : Option Addr} {cs : List Value} (hl : cs.length ≤ 9223372036854775807) (h1 : ∀ v ∈ cs, v.oneCell' = true) (h : 0 < cs.length → ∃ b o, A = some ⟨b, o, none⟩ ∧ ∀ j u, cs[j]? = some u → w.cell? ⟨b, o + j, none⟩ = some u) : Els kRaw (imOf w) A cs := by
  refine ⟨hl, fun hn => ?_⟩
  obtain ⟨b, o, e, hc⟩ := h hn
  refine ⟨b, o, e, fun j x hj => ⟨[x], ⟨rfl, h1 x (List.mem_of_getElem? hj)⟩, fun i u hu => ?_⟩⟩
  match i, hu with
  | 0, hu =>
    simp at hu
    subst hu
    have := hc j x hj
    show (imOf w).cell? ⟨b, o + j * 1 + 0, none⟩ = _
    rw [show o + j * 1 + 0 = o + j by omega]
    simp only [Im.cell?, imOf, World.cell?] at this ⊢
    cases hw : w.heap[b]? with
    | none => rw [hw] at this; exact this
    | some ob => rw [hw] at this; cases ob <;> exact this
  | i + 1, hu => simp at hu
theorem Els.rawOf {α : Type} {d : Kd α} {J : Im} {A : Option Addr} {xs : List α} (h : Els d J A xs) (hd : d.n = 1) : ∃ cs, Row d J cs xs ∧ cs.length = xs.length ∧ ∀ w, Sat J w → Els kRaw (imOf w) A cs := by
  obtain ⟨cs, hR, hc⟩ := h.row'
  have hl : cs.length = xs.length := by rw [hR.length, hd, Nat.mul_one]
  refine ⟨cs, hR, hl, fun w hS => els_raw (by rw [hl]; exact h.1) hR.ones (fun hn => ?_)⟩
  obtain ⟨b, o, e, hcell⟩ := hc (by omega)
  exact ⟨b, o, e, fun j u hu => hS.cell (hcell j u hu)⟩
theorem blk_raw {w : World} {b : Nat} {cs : List Value} {e : TypeId} (h : Blk w b cs e) (h1 : ∀ v ∈ cs, v.oneCell' = true) (hl : cs.length ≤ 9223372036854775807) : Els kRaw (imOf w) (some ⟨b, 0, none⟩) cs :=
  els_raw hl h1 (fun _ => ⟨b, 0, rfl, fun j u hu => by rw [Nat.zero_add]; exact h.cell hu⟩)
section
variable {P : Program} {l : Env} {w : World} {d : Option Nat} {ty : TypeId} {pos : String} {af : Array Edge} {g : Option (Nat × Bool)} {x y z : Operand} {t t' : TypeId}
theorem OpOK.litS {e : TypeId} {c : Nat} {zv : Value} {ps : List (Nat × Operand)} {cs : List Value} (hT : P.underlying t = some (.slice e)) (hs : Sz P e 1) (hz : Zv P e zv) (hp : parts l ps = some (enumL 0 cs)) (hc : cs.length = c) (hsmall : Nat.ble c 16777216 = true) (h1 : ∀ v ∈ cs, v.oneCell' = true) :
    OpOK P l ⟨d, .buildSlice t c ps.toArray, ty, pos, af, g⟩ w (fun v q w' => v = .slice (some ⟨q.1, 0, none⟩) c c ∧ q.1 < q.2 ∧ Blk w' q.1 cs e) :=
  ⟨_, _, r_lit1 hT hs hz hp hc hsmall h1, (Gr.refl _).alloc _, rfl, by simp, Blk.new _ _ _⟩
/-- append to a slice without room, by the cells. -/
theorem OpOK.appR {T e : TypeId} {s x : Operand} {zv : Value} {bytes : Nat} {cs ys : List Value} {A0 A : Option Addr} {m c n : Nat} {dst : Option Nat} (hs : lk l s = some (.slice A0 n n)) (hx : lk l x = some (.slice A m c)) (hT : P.underlying T = some (.slice e)) (hinfo : (P.info? e).map (fun i => (i.zero, i.size, i.bytes)) = some (some zv, 1, bytes)) (hz : zv.cells.size = 1) (hb0 : 0 < bytes)
    (hn : cs.length = n) (hm : ys.length = m) (hm0 : 0 < m) (hE0 : Els kRaw (imOf w) A0 cs) (hE : Els kRaw (imOf w) A ys) (hl : (n + m) * bytes ≤ 140737488355328) :
    OpOK P l ⟨dst, .call { callee := .builtin .append, args := #[s, x], argTypes := #[T, T] }, ty, pos, af, g⟩ w (fun v q w' => ∃ g cap rest, v = .slice (some ⟨g, 0, none⟩) (n + m) cap ∧ n + m ≤ cap ∧ q.1 ≤ g ∧ g < q.2 ∧ Blk w' g ((cs ++ ys) ++ rest) e) := by
  subst hn
  obtain ⟨v', w', hr, h1, h2, _, h4⟩ := run_app (P := P) (d := kRaw) (J := imOf w) (B := w.heap.size) (ty := ty) (c := c) hT hinfo hz (by decide) hb0 (sat_imOf w) (.inr ⟨A0, rfl, hE0⟩) hE hm (Nat.le_refl _) hl
  obtain ⟨g', c', cs', rest, rfl, hc', _, hg', hR, hB⟩ := (h2 hm0).box (by rw [List.length_append]; omega)
  have hcs := hR.rawEq
  subst hcs
  refine ⟨.slice (some ⟨g', 0, none⟩) (cs ++ ys).length c', w', fun ev hev => ?_, h4.gr (Nat.le_refl _), g', c', rest, by rw [List.length_append, hm], by rw [List.length_append, hm] at hc'; exact hc', hg', hB.lt, hB.blk⟩
  simp only [execOp, resolve, invoke, builtin, Sem.run_bind, Sem.run_pure, Result.andThen_ok, List.map_toArray, List.map_cons, List.map_nil, hev s _ hs, hev x _ hx, hr]
end
end Go.Proofs.Ytjjpaghloaggeaa
