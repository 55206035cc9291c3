/- Steps as the walk takes them: numbers in range, elements, slices of slices, appending; no program. -/
import Derived.Test.YtjjpaghloaggeaaApp
set_option linter.unusedVariables false
set_option linter.unusedSimpArgs false
namespace Go.Proofs.Ytjjpaghloaggeaa
open Go.RowKit
section
variable {P : Program} {l : Env} {w : World} {d : Option Nat} {ty : TypeId} {pos : String} {af : Array Edge} {g : Option (Nat × Bool)} {x y z : Operand} {v u : Value} {q q' : IntKind} {m k : Int} {t t' : TypeId} {b c : Bool}
theorem r_addk (hx : lk l x = some (.int q m)) (hy : lk l y = some (.int q k)) (hb : InK q (m + k)) : Run1 P l ⟨d, .binOp .add t x y t', ty, pos, af, g⟩ w (.int q (m + k)) w := by
  have := r_add (P := P) (w := w) (d := d) (ty := ty) (pos := pos) (af := af) (g := g) (t := t) (t' := t') hx hy
  rwa [hb.wrap] at this
theorem r_subk (hx : lk l x = some (.int q m)) (hy : lk l y = some (.int q k)) (hb : InK q (m - k)) : Run1 P l ⟨d, .binOp .sub t x y t', ty, pos, af, g⟩ w (.int q (m - k)) w := by
  have := r_sub (P := P) (w := w) (d := d) (ty := ty) (pos := pos) (af := af) (g := g) (t := t) (t' := t') hx hy
  rwa [hb.wrap] at this
theorem r_mulk (hx : lk l x = some (.int q m)) (hy : lk l y = some (.int q k)) (hb : InK q (m * k)) : Run1 P l ⟨d, .binOp .mul t x y t', ty, pos, af, g⟩ w (.int q (m * k)) w := by
  have := r_mul (P := P) (w := w) (d := d) (ty := ty) (pos := pos) (af := af) (g := g) (t := t) (t' := t') hx hy
  rwa [hb.wrap] at this
theorem r_quok (hx : lk l x = some (.int q m)) (hy : lk l y = some (.int q k)) (hm : 0 ≤ m) (hk : 0 < k) (hb : InK q (m / k)) : Run1 P l ⟨d, .binOp .quo t x y t', ty, pos, af, g⟩ w (.int q (m / k)) w := by
  have := r_quo (P := P) (w := w) (d := d) (ty := ty) (pos := pos) (af := af) (g := g) (t := t) (t' := t') hx hy (by omega)
  rwa [Int.tdiv_eq_ediv_of_nonneg hm, hb.wrap] at this
theorem r_remk (hx : lk l x = some (.int q m)) (hy : lk l y = some (.int q k)) (hm : 0 ≤ m) (hk : k ≠ 0) : Run1 P l ⟨d, .binOp .rem t x y t', ty, pos, af, g⟩ w (.int q (m % k)) w := by
  have := r_rem (P := P) (w := w) (d := d) (ty := ty) (pos := pos) (af := af) (g := g) (t := t) (t' := t') hx hy hk
  rwa [Int.tmod_eq_emod_of_nonneg hm] at this
theorem r_convk (h1 : P.underlying t = some (.int q')) (h2 : P.underlying t' = some (.int q)) (hx : lk l x = some (.int q' m)) (hb : InK q m) : Run1 P l ⟨d, .convert t t' x, ty, pos, af, g⟩ w (.int q m) w := by
  have := r_conv (P := P) (w := w) (d := d) (ty := ty) (pos := pos) (af := af) (g := g) h1 h2 hx
  rwa [hb.wrap] at this
/-- The address of an element of a slice of which the elements are known. -/
theorem r_idx {bb o n cp : Nat} {i : Nat} {e : TypeId} {sz : Nat} (hT : P.underlying t = some (.slice e)) (hs : Sz P e sz) (hx : lk l x = some (.slice (some ⟨bb, o, none⟩) n cp)) (hy : lk l y = some (.int q m)) (hm : m = (i : Int)) (hi : i < n) : Run1 P l ⟨d, .indexAddr t x y, ty, pos, af, g⟩ w (.pointer (some ⟨bb, o + i * sz, none⟩)) w := by
  have := r_indexAddr (P := P) (w := w) (d := d) (ty := ty) (pos := pos) (af := af) (g := g) hT hs hx hy hm hi
  rwa [add_plain] at this
theorem r_idxA {bb o n : Nat} {i : Nat} {e : TypeId} {sz : Nat} (hT : P.underlying t = some (.array n e)) (hs : Sz P e sz) (hx : lk l x = some (.pointer (some ⟨bb, o, none⟩))) (hy : lk l y = some (.int q m)) (hm : m = (i : Int)) (hi : i < n) : Run1 P l ⟨d, .indexAddr t x y, ty, pos, af, g⟩ w (.pointer (some ⟨bb, o + i * sz, none⟩)) w := by
  have := r_indexAddrA (P := P) (w := w) (d := d) (ty := ty) (pos := pos) (af := af) (g := g) hT hs hx hy hm hi
  rwa [add_plain] at this
theorem r_fld {bb o f off : Nat} (hf : Fld P t f off) (hx : lk l x = some (.pointer (some ⟨bb, o, none⟩))) : Run1 P l ⟨d, .fieldAddr t x f, ty, pos, af, g⟩ w (.pointer (some ⟨bb, o + off, none⟩)) w := by
  have := r_fieldAddr (P := P) (w := w) (d := d) (ty := ty) (pos := pos) (af := af) (g := g) hf hx
  rwa [add_plain] at this
/-- Where xs[lo:] begins, capacity cp. -/
def offS (A : Option Addr) (lo sz cp : Nat) : Option Addr := if cp = lo then A else A.map (·.add (lo * sz))
theorem offS_some (b o lo sz cp : Nat) : offS (some ⟨b, o, none⟩) lo sz cp = some ⟨b, if cp = lo then o else o + lo * sz, none⟩ := by
  unfold offS
  split
  · rfl
  · simp [add_plain]
theorem Els.off {α : Type} {d : Kd α} {I : Im} {A : Option Addr} {xs : List α} (h : Els d I A xs) {lo cp : Nat} (hc : xs.length ≤ cp) : Els d I (offS A lo d.n cp) (xs.drop lo) := by
  by_cases e : cp = lo
  · rw [List.drop_eq_nil_of_le (by omega)]; exact Els.nil _ _ _
  · unfold offS
    rw [if_neg e]
    refine ⟨by have := h.1; simp; omega, fun hn => ?_⟩
    simp at hn
    obtain ⟨b, o, rfl⟩ := h.form (by omega)
    simp only [Option.map_some, add_plain]
    exact (h.drop lo).2 (by simp; omega)
/-- xs[lo:] -/
theorem r_from {A : Option Addr} {n cp lo : Nat} {xl : Operand} {e : TypeId} {sz : Nat} (hT : P.underlying t = some (.slice e)) (hs : Sz P e sz) (hx : lk l x = some (.slice A n cp)) (hl : lk l xl = some (.int q m)) (hm : m = (lo : Int)) (h1 : lo ≤ n) (h2 : n ≤ cp) :
    Run1 P l ⟨d, .slice t x (some xl) none none, ty, pos, af, g⟩ w (.slice (offS A lo sz cp) (n - lo) (cp - lo)) w :=
  r_slice (M := cp) hT hs hx ⟨q, by rw [hl, hm]⟩ rfl rfl (by simp) h1 h2 (Nat.le_refl _)
/-- xs[:hi] -/
theorem r_upto {A : Option Addr} {n cp hi : Nat} {xh : Operand} {e : TypeId} {sz : Nat} (hT : P.underlying t = some (.slice e)) (hs : Sz P e sz) (hx : lk l x = some (.slice A n cp)) (hh : lk l xh = some (.int q m)) (hm : m = (hi : Int)) (h2 : hi ≤ cp) :
    Run1 P l ⟨d, .slice t x none (some xh) none, ty, pos, af, g⟩ w (.slice A hi cp) w := by
  have := r_slice (P := P) (w := w) (d := d) (ty := ty) (pos := pos) (af := af) (g := g) (lo := none) (hi := some xh) (mx := none) (L := 0) (Hh := hi) (M := cp) hT hs hx rfl ⟨q, by rw [hh, hm]⟩ rfl (by simp) (Nat.zero_le _) h2 (Nat.le_refl _)
  rw [Nat.sub_zero, Nat.sub_zero] at this
  split at this
  · exact this
  · have e : A.map (·.add (0 * sz)) = A := by cases A <;> simp [add_zero]
    rwa [e] at this
/-- xs[lo:hi] -/
theorem r_part {A : Option Addr} {n cp lo hi : Nat} {xl xh : Operand} {e : TypeId} {sz : Nat} {m' : Int} {q'' : IntKind} (hT : P.underlying t = some (.slice e)) (hs : Sz P e sz) (hx : lk l x = some (.slice A n cp)) (hl : lk l xl = some (.int q m)) (hm : m = (lo : Int)) (hh : lk l xh = some (.int q'' m')) (hm' : m' = (hi : Int)) (h1 : lo ≤ hi) (h2 : hi ≤ cp) :
    Run1 P l ⟨d, .slice t x (some xl) (some xh) none, ty, pos, af, g⟩ w (.slice (offS A lo sz cp) (hi - lo) (cp - lo)) w :=
  r_slice (M := cp) hT hs hx ⟨q, by rw [hl, hm]⟩ ⟨q'', by rw [hh, hm']⟩ rfl (by simp) h1 h2 (Nat.le_refl _)
/-- xs[:hi:mx] -/
theorem r_upto3 {A : Option Addr} {n cp hi mx : Nat} {xh xm : Operand} {e : TypeId} {sz : Nat} {m' : Int} {q'' : IntKind} (hT : P.underlying t = some (.slice e)) (hs : Sz P e sz) (hx : lk l x = some (.slice A n cp)) (hh : lk l xh = some (.int q m)) (hm : m = (hi : Int)) (hmx : lk l xm = some (.int q'' m')) (hm' : m' = (mx : Int)) (h2 : hi ≤ mx) (h3 : mx ≤ cp) :
    Run1 P l ⟨d, .slice t x none (some xh) (some xm), ty, pos, af, g⟩ w (.slice A hi mx) w := by
  have := r_slice (P := P) (w := w) (d := d) (ty := ty) (pos := pos) (af := af) (g := g) (lo := none) (hi := some xh) (mx := some xm) (L := 0) (Hh := hi) (M := mx) hT hs hx rfl ⟨q, by rw [hh, hm]⟩ ⟨q'', by rw [hmx, hm']⟩ (by simp) (Nat.zero_le _) h2 h3
  rw [Nat.sub_zero, Nat.sub_zero] at this
  split at this
  · exact this
  · have e : A.map (·.add (0 * sz)) = A := by cases A <;> simp [add_zero]
    rwa [e] at this
end
section
variable {r : Option Nat} {n : Nat} {P : Program} {ops : Array Oper} {Q : Exit → Act → World → Prop} {a : Act} {w : World} {rest : List Oper} {N : Nat} {D : List Deferred} {l : Env} {t : Nat} {ty : TypeId} {pos : String} {af : Array Edge} {I J : Im} {w0 : World}
theorem s_alloc {T : TypeId} {zv : Value} (H : Holds N D a l) (hz : Zv P T zv) (ht : Nat.blt t N = true) (hN : New I w0 J w)
    (k : ∀ w' b, New I w0 J w' → Gr w w' → Box J w' b zv.cells.toList T → w0.heap.size ≤ b → b = w.heap.size → ∀ a', Holds N D a' ((t, .pointer (some ⟨b, 0, none⟩)) :: l) → wpListIn (Fr r) n P ops Q rest a' w') :
    wpListIn (Fr r) n P ops Q (⟨some t, .alloc T, ty, pos, af, none⟩ :: rest) a w :=
  wl1 H (r_alloc hz) rfl rfl rfl ht (fun a' H' => k _ _ (hN.alloc _) ((Gr.refl _).alloc _) (by have := Box.new hN zv.cells.toList T; simpa using this) hN.gr.size rfl a' H')
theorem s_box {T : TypeId} {x : Operand} {v : Value} (H : Holds N D a l) (hx : lk l x = some v) (ht : Nat.blt t N = true) (hN : New I w0 J w)
    (k : ∀ w' b, New I w0 J w' → Gr w w' → Box J w' b v.cells.toList T → w0.heap.size ≤ b → b = w.heap.size → ∀ a', Holds N D a' ((t, .pointer (some ⟨b, 0, none⟩)) :: l) → wpListIn (Fr r) n P ops Q rest a' w') :
    wpListIn (Fr r) n P ops Q (⟨some t, .box T x, ty, pos, af, none⟩ :: rest) a w :=
  wl1 H (r_box hx) rfl rfl rfl ht (fun a' H' => k _ _ (hN.alloc _) ((Gr.refl _).alloc _) (by have := Box.new hN v.cells.toList T; simpa using this) hN.gr.size rfl a' H')
/-- A literal that stays as it is. -/
theorem s_lit {T e : TypeId} {sz c : Nat} {zv : Value} {ps : List (Nat × Operand)} {vs : List (Nat × Value)} {cs : List Value} (H : Holds N D a l) (hT : P.underlying T = some (.slice e)) (hs : Sz P e sz) (hz : Zv P e zv) (hp : parts l ps = some vs) (hsmall : c * sz ≤ 16777216)
    (hf : Instr.fill (fun i => some (i * sz, sz)) ((Array.range (c * sz)).map ((if c * sz = 0 then #[] else zv.cells)[· % (if c * sz = 0 then #[] else zv.cells).size]!)) vs = some cs.toArray) (ht : Nat.blt t N = true) (hN : New I w0 J w)
    (k : ∀ w' b K, K b = some (.cells cs.toArray e (0, 0)) → Im.le J K → New I w0 K w' → New J w K w' → w0.heap.size ≤ b → ∀ a', Holds N D a' ((t, .slice (some ⟨b, 0, none⟩) c c) :: l) → wpListIn (Fr r) n P ops Q rest a' w') :
    wpListIn (Fr r) n P ops Q (⟨some t, .buildSlice T c ps.toArray, ty, pos, af, none⟩ :: rest) a w :=
  wl1 H (r_buildSlice hT hs hz hp hsmall hf) rfl rfl rfl ht (fun a' H' => k _ _ _ (Im.add_at _ _ _) (J.le_add _ (hN.sat.fresh (Nat.le_refl _))) (hN.lit _) ((New.refl hN.sat).lit _) hN.gr.size a' H')
def enumL : Nat → List Value → List (Nat × Value)
  | _, [] => []
  | k, v :: vs => (k, v) :: enumL (k + 1) vs
theorem fill_ones : ∀ (vs : List Value) (k : Nat) (pre : List Value) (zs : List Value), (∀ v ∈ vs, v.oneCell' = true) → pre.length = k → zs.length = vs.length → Instr.fill (fun i => some (i * 1, 1)) (pre ++ zs).toArray (enumL k vs) = some (pre ++ vs).toArray
  | [], k, pre, zs, _, hk, hz => by
    have : zs = [] := List.eq_nil_of_length_eq_zero hz
    subst this
    simp [enumL, Instr.fill]
  | v :: vs, k, pre, zs, h1, hk, hz => by
    cases zs with
    | nil => simp at hz
    | cons z zs =>
      have hv : v.cells = #[v] := by
        have := h1 v (by simp)
        cases v <;> first | rfl | (simp [Value.oneCell'] at this; done)
      have ih := fill_ones vs (k + 1) (pre ++ [v]) zs (fun u hu => h1 u (by simp [hu])) (by simp [hk]) (by simpa using hz)
      simp only [enumL, Instr.fill, hv]
      have hs : ¬ ((#[v] : Array Value).size ≠ 1 || decide (k * 1 + (#[v] : Array Value).size > (pre ++ z :: zs).toArray.size)) = true := by
        simp; omega
      rw [if_neg hs]
      have e : (Array.zipIdx #[v]).foldl (fun cs x => cs.setIfInBounds (k * 1 + x.2) x.1) (pre ++ z :: zs).toArray = ((pre ++ [v]) ++ zs).toArray := by
        simp [Array.zipIdx, ← hk]
      rw [show (Array.foldl (fun cs x => match x with | (c, j) => cs.setIfInBounds (k * 1 + j) c) (pre ++ z :: zs).toArray (Array.zipIdx #[v])) = ((pre ++ [v]) ++ zs).toArray from e, ih]
      simp
/-- A literal of one-cell elements, all of them given. -/
theorem s_lit1 {T e : TypeId} {c : Nat} {zv : Value} {ps : List (Nat × Operand)} {cs : List Value} (H : Holds N D a l) (hT : P.underlying T = some (.slice e)) (hs : Sz P e 1) (hz : Zv P e zv) (hp : parts l ps = some (enumL 0 cs)) (hc : cs.length = c) (hsmall : Nat.ble c 16777216 = true)
    (h1 : ∀ v ∈ cs, v.oneCell' = true) (ht : Nat.blt t N = true) (hN : New I w0 J w)
    (k : ∀ w' b K, K b = some (.cells cs.toArray e (0, 0)) → Im.le J K → New I w0 K w' → New J w K w' → w0.heap.size ≤ b → ∀ a', Holds N D a' ((t, .slice (some ⟨b, 0, none⟩) c c) :: l) → wpListIn (Fr r) n P ops Q rest a' w') :
    wpListIn (Fr r) n P ops Q (⟨some t, .buildSlice T c ps.toArray, ty, pos, af, none⟩ :: rest) a w := by
  refine s_lit (sz := 1) (zv := zv) H hT hs hz hp (by simpa using hsmall) ?_ ht hN k
  have := fill_ones cs 0 [] (((Array.range (c * 1)).map ((if c * 1 = 0 then #[] else zv.cells)[· % (if c * 1 = 0 then #[] else zv.cells).size]!)).toList) h1 rfl (by simp [hc])
  rw [List.nil_append, Array.toArray_toList] at this
  exact this
/-- append -/
theorem s_app {α : Type} {d : Kd α} {B : Nat} {T e : TypeId} {s x : Operand} {z : Value} {bytes : Nat} {v : Value} {xs ys : List α} {A : Option Addr} {m c : Nat} (H : Holds N D a l) (hs : lk l s = some v) (hx : lk l x = some (.slice A m c)) (hT : P.underlying T = some (.slice e)) (hinfo : (P.info? e).map (fun i => (i.zero, i.size, i.bytes)) = some (some z, d.n, bytes)) (hz : z.cells.size = d.n) (hd0 : 0 < d.n) (hb0 : 0 < bytes) (ht : Nat.blt t N = true)
    (hN : New I w0 J w) (HA : Apx d J w B e v xs) (HE : Els d J A ys) (hm : ys.length = m) (hB0 : w0.heap.size ≤ B) (hB : B ≤ w.heap.size) (hl : (xs.length + m) * bytes ≤ 140737488355328)
    (k : ∀ v' w', Apx d J w' B e v' (xs ++ ys) → (0 < m → OwnK d J w' B e v' (xs ++ ys)) → (OwnK d J w B e v xs → OwnK d J w' B e v' (xs ++ ys)) → Keep J B w w' → New I w0 J w' → ∀ a', Holds N D a' ((t, v') :: l) → wpListIn (Fr r) n P ops Q rest a' w') :
    wpListIn (Fr r) n P ops Q (⟨some t, .call { callee := .builtin .append, args := #[s, x], argTypes := #[T, T] }, ty, pos, af, none⟩ :: rest) a w := by
  obtain ⟨v', w', hr, h1, h2, h3, h4⟩ := run_app (ty := ty) (c := c) hT hinfo hz hd0 hb0 hN.sat HA HE hm hB hl
  refine wl1 (v := v') (w' := w') H (fun ev hev => ?_) rfl rfl rfl ht (fun a' H' => k v' w' h1 h2 h3 h4 (h4.new hN hB0) a' H')
  simp only [execOp, resolve, invoke, builtin, Sem.run_bind, Sem.run_pure, Result.andThen_ok, List.map_toArray, List.map_cons, List.map_nil, hev s _ hs, hev x _ hx, hr]
/-- append, wherever the row lies. -/
theorem s_appS {α : Type} {d : Kd α} {B : Nat} {T e : TypeId} {s x : Operand} {z : Value} {bytes : Nat} {v : Value} {xs ys : List α} {A : Option Addr} {m c : Nat} (H : Holds N D a l) (hs : lk l s = some v) (hx : lk l x = some (.slice A m c)) (hT : P.underlying T = some (.slice e)) (hinfo : (P.info? e).map (fun i => (i.zero, i.size, i.bytes)) = some (some z, d.n, bytes)) (hz : z.cells.size = d.n) (hd0 : 0 < d.n) (hb0 : 0 < bytes) (ht : Nat.blt t N = true)
    (hS : Sat J w) (HA : Apx d J w B e v xs) (HE : Els d J A ys) (hm : ys.length = m) (hB : B ≤ w.heap.size) (hl : (xs.length + m) * bytes ≤ 140737488355328)
    (k : ∀ v' w', Apx d J w' B e v' (xs ++ ys) → (0 < m → OwnK d J w' B e v' (xs ++ ys)) → Keep J B w w' → Sat J w' → ∀ a', Holds N D a' ((t, v') :: l) → wpListIn (Fr r) n P ops Q rest a' w') :
    wpListIn (Fr r) n P ops Q (⟨some t, .call { callee := .builtin .append, args := #[s, x], argTypes := #[T, T] }, ty, pos, af, none⟩ :: rest) a w := by
  obtain ⟨v', w', hr, h1, h2, h3, h4⟩ := run_app (ty := ty) (c := c) hT hinfo hz hd0 hb0 hS HA HE hm hB hl
  refine wl1 (v := v') (w' := w') H (fun ev hev => ?_) rfl rfl rfl ht (fun a' H' => k v' w' h1 h2 h4 (h4.sat hS) a' H')
  simp only [execOp, resolve, invoke, builtin, Sem.run_bind, Sem.run_pure, Result.andThen_ok, List.map_toArray, List.map_cons, List.map_nil, hev s _ hs, hev x _ hx, hr]
/-- append to a row of one's own: it stays one. -/
theorem s_appO {α : Type} {d : Kd α} {B : Nat} {T e : TypeId} {s x : Operand} {z : Value} {bytes : Nat} {v : Value} {xs ys : List α} {A : Option Addr} {m c : Nat} (H : Holds N D a l) (hs : lk l s = some v) (hx : lk l x = some (.slice A m c)) (hT : P.underlying T = some (.slice e)) (hinfo : (P.info? e).map (fun i => (i.zero, i.size, i.bytes)) = some (some z, d.n, bytes)) (hz : z.cells.size = d.n) (hd0 : 0 < d.n) (hb0 : 0 < bytes) (ht : Nat.blt t N = true)
    (hN : New I w0 J w) (HA : OwnK d J w B e v xs) (HE : Els d J A ys) (hm : ys.length = m) (hB0 : w0.heap.size ≤ B) (hB : B ≤ w.heap.size) (hl : (xs.length + m) * bytes ≤ 140737488355328)
    (k : ∀ v' w', OwnK d J w' B e v' (xs ++ ys) → Keep J B w w' → New I w0 J w' → ∀ a', Holds N D a' ((t, v') :: l) → wpListIn (Fr r) n P ops Q rest a' w') :
    wpListIn (Fr r) n P ops Q (⟨some t, .call { callee := .builtin .append, args := #[s, x], argTypes := #[T, T] }, ty, pos, af, none⟩ :: rest) a w :=
  s_app H hs hx hT hinfo hz hd0 hb0 ht hN (.inl HA) HE hm hB0 hB hl (fun v' w' _ _ h3 h4 h5 a' H' => k v' w' (h3 HA) h4 h5 a' H')
/-- A store of one cell into a block of one's own. -/
theorem s_store {T : TypeId} {x y : Operand} {v : Value} {b o : Nat} {cs : List Value} {e : TypeId} (H : Holds N D a l) (hz : Sz P T 1) (h1 : v.oneCell' = true) (hx : lk l x = some (.pointer (some ⟨b, o, none⟩))) (hy : lk l y = some v) (hN : New I w0 J w) (hb : Box J w b cs e) (ho : o < cs.length) (hge : w0.heap.size ≤ b)
    (k : ∀ w', New I w0 J w' → Box J w' b (cs.set o v) e → w' = setB w b (cs.set o v) e → Holds N D a l → wpListIn (Fr r) n P ops Q rest a w') :
    wpListIn (Fr r) n P ops Q (⟨none, .store T x y, ty, pos, af, none⟩ :: rest) a w :=
  wl0 H (r_store hz h1 hx hy hb.blk ho) rfl rfl rfl (fun H' => k _ (hN.setBox hb hge) hb.set rfl H')
theorem s_storeA {T : TypeId} {x y : Operand} {vs : List Value} {b o : Nat} {cs : List Value} {e : TypeId} (H : Holds N D a l) (hz : Sz P T vs.length) (hn : vs ≠ []) (h1 : ∀ v ∈ vs, v.oneCell' = true) (hx : lk l x = some (.pointer (some ⟨b, o, none⟩))) (hy : lk l y = some (.agg vs.toArray)) (hN : New I w0 J w) (hb : Box J w b cs e) (ho : o + vs.length ≤ cs.length) (hge : w0.heap.size ≤ b)
    (k : ∀ w', New I w0 J w' → Box J w' b (spliceL cs o vs) e → w' = setB w b (spliceL cs o vs) e → Holds N D a l → wpListIn (Fr r) n P ops Q rest a w') :
    wpListIn (Fr r) n P ops Q (⟨none, .store T x y, ty, pos, af, none⟩ :: rest) a w :=
  wl0 H (r_storeA hz hn h1 hx hy hb.blk ho) rfl rfl rfl (fun H' => k _ (hN.setBox hb hge) hb.set rfl H')
end
end Go.Proofs.Ytjjpaghloaggeaa
