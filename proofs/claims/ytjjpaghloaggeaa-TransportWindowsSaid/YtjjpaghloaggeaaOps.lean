/- What single operations yield: integers, bools, slices, cells; no program. -/
import Derived.Test.YtjjpaghloaggeaaEng
set_option linter.unusedVariables false
set_option linter.unusedSimpArgs false
namespace Go.Proofs.Ytjjpaghloaggeaa
open Go.RowKit
/-! ### Facts on types -/
def Sz (P : Program) (t : TypeId) (n : Nat) : Prop := ∀ w, (sizeOf t).run P w = .ok n w
def Sc (P : Program) (t : TypeId) : Prop := ∀ w, (isAgg t).run P w = .ok false w
def Ag (P : Program) (t : TypeId) (n : Nat) : Prop := ∀ w, (isAgg t).run P w = .ok true w ∧ (sizeOf t).run P w = .ok n w
def Zv (P : Program) (t : TypeId) (v : Value) : Prop := ∀ w, (zeroValue t).run P w = .ok v w
def Fld (P : Program) (s : TypeId) (f off : Nat) : Prop := ∀ a w, (Instr.fieldAt s (.pointer (some a)) f).run P w = .ok (.pointer (some (a.add off))) w
def BuildAt (P : Program) (t : TypeId) (vs : List (Nat × Value)) (v : Value) : Prop := ∀ w, (Instr.build t vs.toArray).run P w = .ok v w
/-- A bound of a slice expression. -/
def Bd (l : Env) : Option Operand → Nat → Nat → Prop
  | none, dflt, j => j = dflt
  | some x, _, j => ∃ q, lk l x = some (.int q (j : Int))
section
variable {P : Program} {l : Env} {w : World} {d : Option Nat} {ty : TypeId} {pos : String} {af : Array Edge} {g : Option (Nat × Bool)} {x y z : Operand} {v u : Value} {q q' : IntKind} {m k : Int} {t t' : TypeId} {b c : Bool}
theorem r_move (hx : lk l x = some v) : Run1 P l ⟨d, .move x, ty, pos, af, g⟩ w v w := fun ev h => by simp [execOp, h x v hx]
theorem r_assign (hx : lk l x = some v) : Run1 P l ⟨d, .assign x, ty, pos, af, g⟩ w v w := fun ev h => by simp [execOp, h x v hx]
theorem r_pick (hz : lk l z = some (.bool b)) (hx : lk l x = some v) (hy : lk l y = some u) : Run1 P l ⟨d, .pick z x y, ty, pos, af, g⟩ w (if b then v else u) w :=
  fun ev h => by simp [execOp, h z _ hz, h x _ hx, h y _ hy, asBool, go_sem]
theorem r_pick_t (hz : lk l z = some (.bool true)) (hx : lk l x = some v) : Run1 P l ⟨d, .pick z x y, ty, pos, af, g⟩ w v w :=
  fun ev h => by simp [execOp, h z _ hz, h x _ hx, asBool, go_sem]
theorem r_pick_f (hz : lk l z = some (.bool false)) (hy : lk l y = some u) : Run1 P l ⟨d, .pick z x y, ty, pos, af, g⟩ w u w :=
  fun ev h => by simp [execOp, h z _ hz, h y _ hy, asBool, go_sem]
/-! ### integers -/
theorem r_add (hx : lk l x = some (.int q m)) (hy : lk l y = some (.int q k)) : Run1 P l ⟨d, .binOp .add t x y t', ty, pos, af, g⟩ w (.int q (q.wrap (m + k))) w :=
  fun ev h => by simp [execOp, h x _ hx, h y _ hy, binOp, eqGuard, Op.intArith, go_sem]
theorem r_sub (hx : lk l x = some (.int q m)) (hy : lk l y = some (.int q k)) : Run1 P l ⟨d, .binOp .sub t x y t', ty, pos, af, g⟩ w (.int q (q.wrap (m - k))) w :=
  fun ev h => by simp [execOp, h x _ hx, h y _ hy, binOp, eqGuard, Op.intArith, go_sem]
theorem r_mul (hx : lk l x = some (.int q m)) (hy : lk l y = some (.int q k)) : Run1 P l ⟨d, .binOp .mul t x y t', ty, pos, af, g⟩ w (.int q (q.wrap (m * k))) w :=
  fun ev h => by simp [execOp, h x _ hx, h y _ hy, binOp, eqGuard, Op.intArith, go_sem]
theorem r_quo (hx : lk l x = some (.int q m)) (hy : lk l y = some (.int q k)) (hk : k ≠ 0) : Run1 P l ⟨d, .binOp .quo t x y t', ty, pos, af, g⟩ w (.int q (q.wrap (m.tdiv k))) w :=
  fun ev h => by simp [execOp, h x _ hx, h y _ hy, binOp, eqGuard, Op.intDiv, hk, go_sem]
theorem r_rem (hx : lk l x = some (.int q m)) (hy : lk l y = some (.int q k)) (hk : k ≠ 0) : Run1 P l ⟨d, .binOp .rem t x y t', ty, pos, af, g⟩ w (.int q (m.tmod k)) w :=
  fun ev h => by simp [execOp, h x _ hx, h y _ hy, binOp, eqGuard, Op.intDiv, hk, go_sem]
def bt2 : BinOp → (n : Nat) → BitVec n → BitVec n → BitVec n
  | .and, _, a, b => a &&& b
  | .or, _, a, b => a ||| b
  | .xor, _, a, b => a ^^^ b
  | _, _, a, b => a &&& ~~~b
/-- The bits of two integers. -/
def ibits (o : BinOp) (q : IntKind) (m k : Int) : Int := q.wrap (bt2 o q.bits (BitVec.ofInt q.bits m) (BitVec.ofInt q.bits k)).toNat
theorem r_and (hx : lk l x = some (.int q m)) (hy : lk l y = some (.int q k)) : Run1 P l ⟨d, .binOp .and t x y t', ty, pos, af, g⟩ w (.int q (ibits .and q m k)) w :=
  fun ev h => by simp [execOp, h x _ hx, h y _ hy, binOp, eqGuard, Op.intBits, ibits, bt2]
theorem r_or (hx : lk l x = some (.int q m)) (hy : lk l y = some (.int q k)) : Run1 P l ⟨d, .binOp .or t x y t', ty, pos, af, g⟩ w (.int q (ibits .or q m k)) w :=
  fun ev h => by simp [execOp, h x _ hx, h y _ hy, binOp, eqGuard, Op.intBits, ibits, bt2]
theorem r_xor (hx : lk l x = some (.int q m)) (hy : lk l y = some (.int q k)) : Run1 P l ⟨d, .binOp .xor t x y t', ty, pos, af, g⟩ w (.int q (ibits .xor q m k)) w :=
  fun ev h => by simp [execOp, h x _ hx, h y _ hy, binOp, eqGuard, Op.intBits, ibits, bt2]
theorem r_shl (hx : lk l x = some (.int q m)) (hy : lk l y = some (.int q' k)) (hk : 0 ≤ k) : Run1 P l ⟨d, .binOp .shl t x y t', ty, pos, af, g⟩ w (.int q (q.wrap (m * 2 ^ min k.toNat q.bits))) w :=
  fun ev h => by
    have hk' : ¬ k < 0 := by omega
    simp [execOp, h x _ hx, h y _ hy, binOp, eqGuard, Op.shift, hk', go_sem]
theorem r_shr (hx : lk l x = some (.int q m)) (hy : lk l y = some (.int q' k)) (hk : 0 ≤ k) : Run1 P l ⟨d, .binOp .shr t x y t', ty, pos, af, g⟩ w (.int q (m.fdiv (2 ^ min k.toNat q.bits))) w :=
  fun ev h => by
    have hk' : ¬ k < 0 := by omega
    simp [execOp, h x _ hx, h y _ hy, binOp, eqGuard, Op.shift, hk', go_sem]
theorem r_eql (hx : lk l x = some (.int q m)) (hy : lk l y = some (.int q k)) : Run1 P l ⟨d, .binOp .eql t x y t', ty, pos, af, g⟩ w (.bool (decide (m = k))) w :=
  fun ev h => by simp [execOp, h x _ hx, h y _ hy, binOp, eqGuard, Op.intCmp, go_sem]; rfl
theorem r_neq (hx : lk l x = some (.int q m)) (hy : lk l y = some (.int q k)) : Run1 P l ⟨d, .binOp .neq t x y t', ty, pos, af, g⟩ w (.bool (decide (m ≠ k))) w :=
  fun ev h => by
    simp [execOp, h x _ hx, h y _ hy, binOp, eqGuard, Op.intCmp, go_sem]
    by_cases e : m = k <;> simp [e]
theorem r_lss (hx : lk l x = some (.int q m)) (hy : lk l y = some (.int q k)) : Run1 P l ⟨d, .binOp .lss t x y t', ty, pos, af, g⟩ w (.bool (decide (m < k))) w :=
  fun ev h => by simp [execOp, h x _ hx, h y _ hy, binOp, eqGuard, Op.intCmp, go_sem]
theorem r_leq (hx : lk l x = some (.int q m)) (hy : lk l y = some (.int q k)) : Run1 P l ⟨d, .binOp .leq t x y t', ty, pos, af, g⟩ w (.bool (decide (m ≤ k))) w :=
  fun ev h => by simp [execOp, h x _ hx, h y _ hy, binOp, eqGuard, Op.intCmp, go_sem]
theorem r_gtr (hx : lk l x = some (.int q m)) (hy : lk l y = some (.int q k)) : Run1 P l ⟨d, .binOp .gtr t x y t', ty, pos, af, g⟩ w (.bool (decide (k < m))) w :=
  fun ev h => by simp [execOp, h x _ hx, h y _ hy, binOp, eqGuard, Op.intCmp, go_sem]
theorem r_geq (hx : lk l x = some (.int q m)) (hy : lk l y = some (.int q k)) : Run1 P l ⟨d, .binOp .geq t x y t', ty, pos, af, g⟩ w (.bool (decide (k ≤ m))) w :=
  fun ev h => by simp [execOp, h x _ hx, h y _ hy, binOp, eqGuard, Op.intCmp, go_sem]
theorem run_eqb (hT : P.underlying t = some .bool) (b c : Bool) (w : World) : (Op.equal t (.bool b) (.bool c)).run P w = .ok (b == c) w := by
  show (Op.equalIn (9999 + 1) t _ _).run P w = _
  generalize 9999 = n
  simp only [Op.equalIn, Sem.run_bind, run_underlying hT, Result.andThen_ok, Sem.run_pure]
theorem r_eqb (hT : P.underlying t = some .bool) (hx : lk l x = some (.bool b)) (hy : lk l y = some (.bool c)) : Run1 P l ⟨d, .binOp .eql t x y t', ty, pos, af, g⟩ w (.bool (b == c)) w :=
  fun ev h => by
    simp only [execOp, h x _ hx, h y _ hy, Sem.run_bind, eqGuard, Sem.run_pure, Result.andThen_ok]
    show ((binOp .eql t (.bool b) (.bool c)).run P w).andThen _ = _
    rw [show binOp .eql t (.bool b) (.bool c) = (do pure (.bool (← Op.equal t (.bool b) (.bool c)))) from by unfold binOp; rfl]
    simp only [Sem.run_bind, run_eqb hT, Result.andThen_ok, Sem.run_pure]
theorem r_neb (hT : P.underlying t = some .bool) (hx : lk l x = some (.bool b)) (hy : lk l y = some (.bool c)) : Run1 P l ⟨d, .binOp .neq t x y t', ty, pos, af, g⟩ w (.bool (!(b == c))) w :=
  fun ev h => by
    simp only [execOp, h x _ hx, h y _ hy, Sem.run_bind, eqGuard, Sem.run_pure, Result.andThen_ok]
    show ((binOp .neq t (.bool b) (.bool c)).run P w).andThen _ = _
    rw [show binOp .neq t (.bool b) (.bool c) = (do pure (.bool (!(← Op.equal t (.bool b) (.bool c))))) from by unfold binOp; rfl]
    simp only [Sem.run_bind, run_eqb hT, Result.andThen_ok, Sem.run_pure]
theorem r_not (hx : lk l x = some (.bool b)) : Run1 P l ⟨d, .unOp .not t x, ty, pos, af, g⟩ w (.bool (!b)) w :=
  fun ev h => by simp [execOp, h x _ hx, Op.unary, go_sem]
theorem r_conv (h1 : P.underlying t = some (.int q')) (h2 : P.underlying t' = some (.int q)) (hx : lk l x = some (.int q' m)) : Run1 P l ⟨d, .convert t t' x, ty, pos, af, g⟩ w (.int q (q.wrap m)) w :=
  fun ev h => by simp [execOp, h x _ hx, convert, run_underlying h1, run_underlying h2, Conv.intToInt, go_sem]
/-! ### functions, tuples -/
theorem r_makeFunc {fn : Fn} {fs cs : List Operand} {us vs : List Value} (h1 : lks l fs = some us) (h2 : lks l cs = some vs) : Run1 P l ⟨d, .makeFunc fn fs.toArray cs.toArray, ty, pos, af, g⟩ w (.func fn us.toArray vs.toArray) w :=
  fun ev h => by simp [execOp, Instr.makeFunc, h.list fs us h1, h.list cs vs h2, go_sem]
theorem r_extract {i : Nat} {vs : List Value} (hx : lk l x = some (.tuple vs.toArray)) (hi : vs[i]? = some v) : Run1 P l ⟨d, .extract x i, ty, pos, af, g⟩ w v w :=
  fun ev h => by simp [execOp, h x _ hx, Instr.extract, hi, go_sem]
theorem r_nilCheck {a : Addr} (hx : lk l x = some (.pointer (some a))) : Run1 P l ⟨d, .nilCheck x, ty, pos, af, g⟩ w (.pointer (some a)) w :=
  fun ev h => by simp [execOp, h x _ hx, go_sem]
/-! ### slices -/
theorem r_len {A : Option Addr} {n cp : Nat} {e : TypeId} (hT : P.underlying t = some (.slice e)) (hx : lk l x = some (.slice A n cp)) : Run1 P l ⟨d, .call { callee := .builtin .len, args := #[x], argTypes := #[t] }, ty, pos, af, g⟩ w (.int .i64 n) w :=
  fun ev h => by simp [execOp, resolve, invoke, builtin, Builtin.len_, run_underlying hT, h x _ hx, goInt, go_sem]
theorem r_len_arr {n : Nat} {e : TypeId} (hT : P.underlying t = some (.array n e)) (hx : lk l x = some v) : Run1 P l ⟨d, .call { callee := .builtin .len, args := #[x], argTypes := #[t] }, ty, pos, af, g⟩ w (.int .i64 n) w :=
  fun ev h => by simp [execOp, resolve, invoke, builtin, Builtin.len_, run_underlying hT, h x _ hx, goInt, go_sem]
theorem r_min (hx : lk l x = some (.int q m)) (hy : lk l y = some (.int q k)) : Run1 P l ⟨d, .call { callee := .builtin .min, args := #[x, y], argTypes := #[t, t'] }, ty, pos, af, g⟩ w (.int q (min m k)) w :=
  fun ev h => by
    simp [execOp, resolve, invoke, builtin, Builtin.min_, Builtin.min2, h x _ hx, h y _ hy, go_sem]
    omega
theorem r_max (hx : lk l x = some (.int q m)) (hy : lk l y = some (.int q k)) : Run1 P l ⟨d, .call { callee := .builtin .max, args := #[x, y], argTypes := #[t, t'] }, ty, pos, af, g⟩ w (.int q (max m k)) w :=
  fun ev h => by
    simp [execOp, resolve, invoke, builtin, Builtin.max_, Builtin.max2, h x _ hx, h y _ hy, go_sem]
    omega
/-- The element's address in a slice. -/
theorem r_indexAddr {a : Addr} {n cp i : Nat} {e : TypeId} {sz : Nat} (hT : P.underlying t = some (.slice e)) (hs : Sz P e sz) (hx : lk l x = some (.slice (some a) n cp)) (hy : lk l y = some (.int q m)) (hm : m = (i : Int)) (hi : i < n) : Run1 P l ⟨d, .indexAddr t x y, ty, pos, af, g⟩ w (.pointer (some (a.add (i * sz)))) w :=
  fun ev h => by
    subst hm
    have h2 : (0 : Int) ≤ (i : Int) ∧ (i : Int) < (n : Int) := by omega
    simp only [execOp, h x _ hx, h y _ hy, Instr.indexAt, asIntOf, Sem.run_bind, Sem.run_pure, Result.andThen_ok, run_underlying hT]
    rw [if_pos h2]
    simp only [Sem.run_bind, hs w, Result.andThen_ok, Sem.run_pure, Int.toNat_natCast]
/-- The element's address in an array in memory. -/
theorem r_indexAddrA {a : Addr} {n i : Nat} {e : TypeId} {sz : Nat} (hT : P.underlying t = some (.array n e)) (hs : Sz P e sz) (hx : lk l x = some (.pointer (some a))) (hy : lk l y = some (.int q m)) (hm : m = (i : Int)) (hi : i < n) : Run1 P l ⟨d, .indexAddr t x y, ty, pos, af, g⟩ w (.pointer (some (a.add (i * sz)))) w :=
  fun ev h => by
    subst hm
    have h2 : (0 : Int) ≤ (i : Int) ∧ (i : Int) < (n : Int) := by omega
    simp only [execOp, h x _ hx, h y _ hy, Instr.indexAt, asIntOf, Sem.run_bind, Sem.run_pure, Result.andThen_ok, run_underlying hT, Instr.sureAddr]
    rw [if_pos h2]
    simp only [Sem.run_bind, hs w, Result.andThen_ok, Sem.run_pure, Int.toNat_natCast]
/-- A load of one cell. -/
theorem r_load {a : Addr} (hS : Sc P t) (hx : lk l x = some (.pointer (some a))) (hc : w.cell? a = some v) : Run1 P l ⟨d, .load t x, ty, pos, af, g⟩ w v w :=
  fun ev h => by
    simp only [execOp, h x _ hx, Instr.loadAt, Instr.sureAddr, loadVar, Sem.run_bind, Sem.run_pure, Result.andThen_ok, hS w]
    simp [load, Sem.run, hc, go_sem]
theorem run_loadCellsFrom (a : Addr) : ∀ (cs : List Value) (i : Nat) (acc : Array Value), (∀ j u, cs[j]? = some u → w.cell? (a.add (i + j)) = some u) → (loadCellsFrom a i cs.length acc).run P w = .ok (acc ++ cs.toArray) w
  | [], i, acc, _ => by simp [loadCellsFrom, go_sem]
  | c :: cs, i, acc, hc => by
    have h0 := hc 0 c (by simp)
    have ih := run_loadCellsFrom a cs (i + 1) (acc.push c) (fun j u hu => by have := hc (j + 1) u (by simpa using hu); rwa [show i + (j + 1) = i + 1 + j from by omega] at this)
    simp only [Nat.add_zero] at h0
    simp only [List.length_cons, loadCellsFrom, Sem.run_bind, load, Sem.run, h0, Result.andThen_ok]
    rw [ih]
    simp
/-- A load of a struct or an array. -/
theorem r_loadA {a : Addr} {cs : List Value} (hS : Ag P t cs.length) (hx : lk l x = some (.pointer (some a))) (hc : ∀ j u, cs[j]? = some u → w.cell? (a.add j) = some u) : Run1 P l ⟨d, .load t x, ty, pos, af, g⟩ w (.agg cs.toArray) w :=
  fun ev h => by
    have := run_loadCellsFrom (P := P) (w := w) a cs 0 #[] (by simpa using hc)
    simp only [execOp, h x _ hx, Instr.loadAt, Instr.sureAddr, loadVar, Sem.run_bind, Sem.run_pure, Result.andThen_ok, (hS w).1, (hS w).2, loadCells, if_true, this]
    simp
/-! ### Blocks of one's own -/
/-- Block b holds the cells cs. -/
def Blk (w : World) (b : Nat) (cs : List Value) (e : TypeId) : Prop := w.heap[b]? = some (.cells cs.toArray e (0, 0))
def setB (w : World) (b : Nat) (cs : List Value) (e : TypeId) : World := { w with heap := w.heap.setIfInBounds b (.cells cs.toArray e (0, 0)) }
theorem Blk.lt {b : Nat} {cs : List Value} {e : TypeId} (h : Blk w b cs e) : b < w.heap.size := (Array.getElem?_eq_some_iff.1 h).1
theorem Blk.cell {b : Nat} {cs : List Value} {e : TypeId} (h : Blk w b cs e) {o : Nat} {v : Value} (hv : cs[o]? = some v) : w.cell? ⟨b, o, none⟩ = some v := by
  unfold Blk at h
  simp [World.cell?, h, hv]
theorem Blk.frozen {b : Nat} {cs : List Value} {e : TypeId} (h : Blk w b cs e) (o : Nat) : w.frozen? ⟨b, o, none⟩ = false := by
  unfold Blk at h
  simp [World.frozen?, h]
theorem Blk.new (w : World) (cs : List Value) (e : TypeId) : Blk (w.alloc (.cells cs.toArray e)) w.heap.size cs e := heap_new _ _
theorem Blk.gr {b : Nat} {cs : List Value} {e : TypeId} {w' : World} (h : Blk w b cs e) (hg : Gr w w') : Blk w' b cs e := hg.block h
theorem Blk.set {b : Nat} {cs ds : List Value} {e e' : TypeId} (h : Blk w b cs e) : Blk (setB w b ds e') b ds e' := by
  have := h.lt
  simp [Blk, setB, this]
theorem Blk.other {b b' : Nat} {cs ds : List Value} {e e' : TypeId} (h : Blk w b cs e) (hne : b' ≠ b) : Blk (setB w b' ds e') b cs e := by
  unfold Blk at h
  simp only [Blk, setB]
  rw [Array.getElem?_setIfInBounds_ne hne]
  exact h
theorem Gr.setB {w0 w : World} (h : Gr w0 w) {b : Nat} (hb : w0.heap.size ≤ b) (cs : List Value) (e : TypeId) : Gr w0 (setB w b cs e) := by
  refine ⟨⟨h.b.os, h.b.tape, h.b.output, by simpa [Go.Proofs.Ytjjpaghloaggeaa.setB] using h.b.size, fun i hi => ?_⟩⟩
  simp only [Go.Proofs.Ytjjpaghloaggeaa.setB]
  rw [Array.getElem?_setIfInBounds_ne (by omega)]
  exact h.b.block i hi
theorem setCell_blk {b o : Nat} {cs : List Value} {e : TypeId} (h : Blk w b cs e) (v : Value) : w.setCell ⟨b, o, none⟩ v = setB w b (cs.set o v) e := by
  have hlt := h.lt
  have he := (Array.getElem?_eq_some_iff.1 h).2
  simp only [World.setCell, setB]
  congr 1
  apply Array.ext_getElem?
  intro i
  rw [Array.getElem?_modify, Array.getElem?_setIfInBounds]
  by_cases hi : b = i
  · subst hi
    simp [h, hlt, he]
  · simp [hi]
def spliceL (cs : List Value) (o : Nat) : List Value → List Value
  | [] => cs
  | v :: vs => spliceL (cs.set o v) (o + 1) vs
theorem spliceL_length (cs : List Value) : ∀ (vs : List Value) (o : Nat), (spliceL cs o vs).length = cs.length
  | [], _ => rfl
  | v :: vs, o => by rw [spliceL, spliceL_length _ vs]; simp
end
theorem run_storeCells {P : Program} {b : Nat} {e : TypeId} (o : Nat) : ∀ (vs : List Value) (i : Nat) (cs : List Value) (w : World), Blk w b cs e → o + i + vs.length ≤ cs.length → (∀ v ∈ vs, v.oneCell' = true) →
    (storeCells ⟨b, o, none⟩ vs i).run P w = .ok () (if vs = [] then w else setB w b (spliceL cs (o + i) vs) e)
  | [], i, cs, w, hb, hl, h1 => by simp [storeCells, go_sem]
  | v :: vs, i, cs, w, hb, hl, h1 => by
    simp only [List.length_cons] at hl
    have hc : w.cell? ⟨b, o + i, none⟩ = some (cs[o + i]'(by omega)) := hb.cell (by simp)
    have hf := hb.frozen (o + i)
    have h1v := h1 v (by simp)
    have hb2 : Blk (w.setCell ⟨b, o + i, none⟩ v) b (cs.set (o + i) v) e := by rw [setCell_blk hb]; exact hb.set
    have ih := run_storeCells (P := P) o vs (i + 1) (cs.set (o + i) v) _ hb2 (by simp; omega) (fun u hu => h1 u (by simp [hu]))
    have hst : (store ((⟨b, o, none⟩ : Addr).add i) v).run P w = .ok () (w.setCell ⟨b, o + i, none⟩ v) := by
      rw [add_plain]
      cases v <;> first | (simp [Value.oneCell'] at h1v; done) | simp [store, Sem.run, hc, hf]
    simp only [storeCells, Sem.run_bind, hst, Result.andThen_ok, ih]
    congr 1
    simp only [List.cons_ne_nil, if_false, spliceL, setCell_blk hb]
    split
    · rename_i e0
      subst e0
      simp [spliceL]
    · rw [show o + (i + 1) = o + i + 1 from by omega]
      simp [setB]
section
variable {P : Program} {l : Env} {w : World} {d : Option Nat} {ty : TypeId} {pos : String} {af : Array Edge} {g : Option (Nat × Bool)} {x y z : Operand} {v u : Value} {q q' : IntKind} {m k : Int} {t t' : TypeId} {b c : Bool}
/-- A store of one cell into a block of one's own. -/
theorem r_store {b o : Nat} {cs : List Value} {e : TypeId} (hz : Sz P t 1) (h1 : v.oneCell' = true) (hx : lk l x = some (.pointer (some ⟨b, o, none⟩))) (hy : lk l y = some v) (hb : Blk w b cs e) (ho : o < cs.length) :
    Run0 P l ⟨d, .store t x y, ty, pos, af, g⟩ w (setB w b (cs.set o v) e) :=
  fun ev h => by
    have hs := run_storeCells (P := P) o [v] 0 cs w hb (by simp; omega) (by simpa using h1)
    simp only [List.cons_ne_nil, if_false, Nat.add_zero, spliceL] at hs
    have hv : v.cells = #[v] := by cases v <;> first | rfl | (simp [Value.oneCell'] at h1; done)
    simp only [execOp, h x _ hx, h y _ hy, Instr.storeAt, Instr.sureAddr, storeVar, Sem.run_bind, Sem.run_pure, Result.andThen_ok, hz w, hv]
    simp [hs, Sem.run_bind, Sem.run_pure]
/-- A store of a struct or an array into a block of one's own. -/
theorem r_storeA {b o : Nat} {cs vs : List Value} {e : TypeId} (hz : Sz P t vs.length) (hn : vs ≠ []) (h1 : ∀ v ∈ vs, v.oneCell' = true) (hx : lk l x = some (.pointer (some ⟨b, o, none⟩))) (hy : lk l y = some (.agg vs.toArray)) (hb : Blk w b cs e) (ho : o + vs.length ≤ cs.length) :
    Run0 P l ⟨d, .store t x y, ty, pos, af, g⟩ w (setB w b (spliceL cs o vs) e) :=
  fun ev h => by
    have hs := run_storeCells (P := P) o vs 0 cs w hb (by omega) h1
    simp only [if_neg hn, Nat.add_zero] at hs
    simp only [execOp, h x _ hx, h y _ hy, Instr.storeAt, Instr.sureAddr, storeVar, Sem.run_bind, Sem.run_pure, Result.andThen_ok, hz w, Value.cells]
    simp [hs, go_sem]
/-! ### New blocks -/
theorem r_alloc {zv : Value} (hz : Zv P t zv) : Run1 P l ⟨d, .alloc t, ty, pos, af, g⟩ w (.pointer (some ⟨w.heap.size, 0, none⟩)) (w.alloc (.cells zv.cells t)) :=
  fun ev h => by
    simp only [execOp, Instr.alloc, Sem.run_bind, hz w, Result.andThen_ok, newVar, newRow, newObj, Sem.run, Sem.run_pure]
    rfl
theorem r_box (hx : lk l x = some v) : Run1 P l ⟨d, .box t x, ty, pos, af, g⟩ w (.pointer (some ⟨w.heap.size, 0, none⟩)) (w.alloc (.cells v.cells t)) :=
  fun ev h => by
    simp only [execOp, h x _ hx, Instr.box, Sem.run_bind, Result.andThen_ok, newVar, newRow, newObj, Sem.run, Sem.run_pure]
    rfl
def parts (l : Env) : List (Nat × Operand) → Option (List (Nat × Value))
  | [] => some []
  | (i, x) :: r => match lk l x, parts l r with | some v, some vs => some ((i, v) :: vs) | _, _ => none
theorem Ev.parts {ev : Operand → Value} (h : Ev l ev) : ∀ (ps : List (Nat × Operand)) (vs : List (Nat × Value)), Go.Proofs.Ytjjpaghloaggeaa.parts l ps = some vs → ps.map (fun p => (p.1, ev p.2)) = vs
  | [], vs, e => by cases e; rfl
  | (i, x) :: r, vs, e => by
    simp only [Go.Proofs.Ytjjpaghloaggeaa.parts] at e
    split at e
    · rename_i v us h1 h2
      injection e with e
      subst e
      rw [List.map_cons, h x v h1, Ev.parts h r us h2]
    · cases e
/-- '[]T{..}' -/
theorem r_buildSlice {e : TypeId} {sz n : Nat} {zv : Value} {ps : List (Nat × Operand)} {vs : List (Nat × Value)} {cs : List Value} (hT : P.underlying t = some (.slice e)) (hs : Sz P e sz) (hz : Zv P e zv) (hp : parts l ps = some vs) (hsmall : n * sz ≤ 16777216)
    (hf : Instr.fill (fun i => some (i * sz, sz)) ((Array.range (n * sz)).map ((if n * sz = 0 then #[] else zv.cells)[· % (if n * sz = 0 then #[] else zv.cells).size]!)) vs = some cs.toArray) :
    Run1 P l ⟨d, .buildSlice t n ps.toArray, ty, pos, af, g⟩ w (.slice (some ⟨w.heap.size, 0, none⟩) n n) (w.alloc (.cells cs.toArray e)) :=
  fun ev h => by
    have h0 := h.parts ps vs hp
    have hns : ¬ n * sz > 2 ^ 24 := by omega
    have h0' : (Array.map (fun x : Nat × Operand => (x.1, ev x.2)) ps.toArray).toList = vs := by simpa using h0
    by_cases hn : n * sz = 0
    · simp only [hn, if_true] at hf
      simp only [execOp, Instr.buildSlice, Sem.run_bind, run_underlying hT, hs w, Result.andThen_ok, hn, if_true, Sem.run_pure, Nat.not_lt_zero, if_false, gt_iff_lt]
      simp only [h0', hf, Sem.run_bind, newRow, newObj, Sem.run, Result.andThen_ok, Sem.run_pure]
      rfl
    · simp only [hn, if_false] at hf
      simp only [execOp, Instr.buildSlice, Sem.run_bind, run_underlying hT, hs w, Result.andThen_ok, hn, if_false, hns, hz w, Sem.run_pure]
      simp only [h0', hf, Sem.run_bind, newRow, newObj, Sem.run, Result.andThen_ok, Sem.run_pure]
      rfl
/-- A struct or an array put together. -/
theorem r_build {v : Value} {ps : List (Nat × Operand)} {vs : List (Nat × Value)} (hp : parts l ps = some vs) (hb : BuildAt P t vs v) : Run1 P l ⟨d, .build t ps.toArray, ty, pos, af, g⟩ w v w :=
  fun ev h => by
    have h0 := h.parts ps vs hp
    have h0' : Array.map (fun x : Nat × Operand => (x.1, ev x.2)) ps.toArray = vs.toArray := by simpa using h0
    simp only [execOp, Sem.run_bind]
    rw [show (Array.map (fun x => match x with | (i, x) => (i, ev x)) ps.toArray) = vs.toArray from h0', hb w]
    rfl
theorem r_fieldAddr {a : Addr} {f off : Nat} (hf : Fld P t f off) (hx : lk l x = some (.pointer (some a))) : Run1 P l ⟨d, .fieldAddr t x f, ty, pos, af, g⟩ w (.pointer (some (a.add off))) w :=
  fun ev h => by simp only [execOp, h x _ hx, Sem.run_bind, hf a w, Result.andThen_ok, Sem.run_pure]
theorem r_field {cs : Array Value} {f : Nat} (hx : lk l x = some (.agg cs)) (hf : (Instr.field t (.agg cs) f).run P w = .ok v w) : Run1 P l ⟨d, .field t x f, ty, pos, af, g⟩ w v w :=
  fun ev h => by simp only [execOp, h x _ hx, Sem.run_bind, hf, Result.andThen_ok, Sem.run_pure]
/-- xs[lo:hi:max] -/
theorem r_slice {A : Option Addr} {n cp : Nat} {lo hi mx : Option Operand} {e : TypeId} {sz L Hh M : Nat} (hT : P.underlying t = some (.slice e)) (hs : Sz P e sz) (hx : lk l x = some (.slice A n cp))
    (hlo : Bd l lo 0 L) (hhi : Bd l hi n Hh) (hmx : Bd l mx cp M) (hmm : mx.isSome = true → hi.isSome = true) (h1 : L ≤ Hh) (h2 : Hh ≤ M) (h3 : M ≤ cp) :
    Run1 P l ⟨d, .slice t x lo hi mx, ty, pos, af, g⟩ w (.slice (if M = L then A else A.map (·.add (L * sz))) (Hh - L) (M - L)) w := by
  intro ev h
  have sb : ∀ (q : IntKind) (j y : Nat) (c : BoundsCode), j ≤ y → (Instr.sliceBound (.int q j) y c).run P w = .ok j w := by
    intro q j y c hj
    have : (0 : Int) ≤ (j : Int) ∧ (j : Int) ≤ (y : Int) := by omega
    simp only [Instr.sliceBound, asIntOf, Sem.run_bind, Sem.run_pure, Result.andThen_ok]
    rw [if_pos this]
    simp only [Sem.run_pure, Int.toNat_natCast]
  have key : (Instr.sliceBounds true n cp (lo.map ev) (hi.map ev) (mx.map ev)).run P w = .ok (L, Hh, M) w := by
    rcases mx with _ | mx
    · obtain rfl : M = cp := hmx
      rcases hi with _ | hi
      · obtain rfl : Hh = n := hhi
        rcases lo with _ | lo
        · obtain rfl : L = 0 := hlo
          simp only [Instr.sliceBounds, Option.map_none, Sem.run_bind, Sem.run_pure, Result.andThen_ok]
        · obtain ⟨q1, e1⟩ := hlo
          simp only [Instr.sliceBounds, Option.map_none, Option.map_some, h lo _ e1, Sem.run_bind, Sem.run_pure, Result.andThen_ok, sb _ _ _ _ h1, Option.isSome_none, Bool.false_eq_true, if_false]
      · obtain ⟨q2, e2⟩ := hhi
        rcases lo with _ | lo
        · obtain rfl : L = 0 := hlo
          simp only [Instr.sliceBounds, Option.map_none, Option.map_some, h hi _ e2, Sem.run_bind, Sem.run_pure, Result.andThen_ok, if_true, sb _ _ _ _ h2]
        · obtain ⟨q1, e1⟩ := hlo
          simp only [Instr.sliceBounds, Option.map_none, Option.map_some, h hi _ e2, h lo _ e1, Sem.run_bind, Sem.run_pure, Result.andThen_ok, if_true, sb _ _ _ _ h2, sb _ _ _ _ h1, Option.isSome_none, Bool.false_eq_true, if_false]
    · obtain ⟨q3, e3⟩ := hmx
      rcases hi with _ | hi
      · exact absurd (hmm rfl) (by simp)
      · obtain ⟨q2, e2⟩ := hhi
        rcases lo with _ | lo
        · obtain rfl : L = 0 := hlo
          simp only [Instr.sliceBounds, Option.map_none, Option.map_some, h hi _ e2, h mx _ e3, Sem.run_bind, Sem.run_pure, Result.andThen_ok, if_true, sb _ _ _ _ h2, sb _ _ _ _ h3]
        · obtain ⟨q1, e1⟩ := hlo
          simp only [Instr.sliceBounds, Option.map_some, h hi _ e2, h lo _ e1, h mx _ e3, Sem.run_bind, Sem.run_pure, Result.andThen_ok, if_true, sb _ _ _ _ h2, sb _ _ _ _ h1, sb _ _ _ _ h3, Option.isSome_some]
  simp only [execOp, h x _ hx, Instr.sliceAt, Instr.slice, Sem.run_bind, run_underlying hT, Result.andThen_ok, key, hs w, Sem.run_pure]
end
end Go.Proofs.Ytjjpaghloaggeaa
