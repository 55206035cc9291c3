/- A region that draws its order: each operation is shown once, out of what it reads; no program. -/
import Derived.Test.YtjjpaghloaggeaaMem
import Derived.OrdersIn
set_option linter.unusedVariables false
set_option linter.unusedSimpArgs false
namespace Go.Proofs.Ytjjpaghloaggeaa
open Go.RowKit
/-- What a region lets stay, seen from the world where it began. -/
def plus (J : Im) (w0 w : World) : Im := fun b => if b < w0.heap.size then J b else w.heap[b]?
theorem plus_le {J : Im} {w0 w w' : World} (hg : Gr w w') : Im.le (plus J w0 w) (plus J w0 w') := by
  intro b o h
  simp only [plus] at h ⊢
  split at h
  · rename_i hb; rw [if_pos hb]; exact h
  · rename_i hb; rw [if_neg hb]; exact hg.block h
theorem new_plus {J : Im} {w0 w : World} (hS : Sat J w0) (hg : Gr w0 w) : New J w0 (plus J w0 w) w := by
  refine ⟨fun b o h => ?_, fun b o h => ?_, hg, fun b hb => by simp only [plus, if_pos hb]⟩
  · simp only [plus]; rw [if_pos (hS.lt h)]; exact h
  · simp only [plus] at h
    split at h
    · exact (hS.gr hg) b o h
    · exact h
theorem plus_new {J K : Im} {w0 w w' : World} (hn : New (plus J w0 w) w K w') (hg : w0.heap.size ≤ w.heap.size) : Im.le K (plus J w0 w') := by
  intro b o h
  by_cases hb : b < w0.heap.size
  · have h1 := hn.old b (by omega)
    rw [h1] at h
    simp only [plus, if_pos hb] at h ⊢
    exact h
  · simp only [plus, if_neg hb]
    exact hn.sat b o h
def aftersOf (o : Oper) : List Nat := (o.after.toList.filter (Region.binds .any)).map (·.on)
def dstOf (ops : List Oper) (j : Nat) : Nat := ((ops[j]?).bind (·.dst)).getD 0
/-- What the walk of the region asks of its text: m operations in front whose order is open, behind them operations that wait for all. -/
def regB (N m : Nat) (ops : List Oper) (l : Env) : Bool :=
  Nat.ble m ops.length &&
  (ops.zipIdx.all fun (o, j) => (aftersOf o).all (fun i => Nat.blt i j)) &&
  ((List.range (ops.length - m)).all fun j => (List.range (m + j)).all (fun i => ((ops.take (m + j + 1)).drop (i + 1)).any (fun o => (aftersOf o).contains i))) &&
  ((ops.take m).all fun o => (match o.dst with | some d => Nat.blt d N && l.all (fun p => !Nat.beq p.1 d) | none => false) && calm o.op && (match o.guard with | some (g, _) => (aftersOf o).contains g | none => true)) &&
  (((ops.take m).map (fun o => o.dst.getD 0)).zipIdx.all fun (d, j) => (((ops.take m).map (fun o => o.dst.getD 0)).take j).all (fun d' => !Nat.beq d' d))
structure RegOK (N m : Nat) (ops : List Oper) (l : Env) : Prop where
  hm : m ≤ ops.length
  low : ∀ (j : Nat) o, ops[j]? = some o → ∀ i ∈ aftersOf o, i < j
  tail : ∀ (j : Nat) o, m ≤ j → ops[j]? = some o → ∀ i, i < j → ∃ k o', i < k ∧ k ≤ j ∧ ops[k]? = some o' ∧ i ∈ aftersOf o'
  dst : ∀ (j : Nat) o, j < m → ops[j]? = some o → o.dst = some (dstOf ops j) ∧ dstOf ops j < N
  keys : ∀ j, j < m → ∀ p ∈ l, p.1 ≠ dstOf ops j
  cal : ∀ (j : Nat) o, j < m → ops[j]? = some o → calm o.op = true
  gd : ∀ (j : Nat) o, j < m → ops[j]? = some o → ∀ g b, o.guard = some (g, b) → g ∈ aftersOf o
  inj : ∀ i j, i < m → j < m → i ≠ j → dstOf ops i ≠ dstOf ops j
theorem regB_ok {N m : Nat} {ops : List Oper} {l : Env} (h : regB N m ops l = true) : RegOK N m ops l := by
  simp only [regB, Bool.and_eq_true] at h
  obtain ⟨⟨⟨⟨h1, h2⟩, h3⟩, h4⟩, h5⟩ := h
  have h1 : m ≤ ops.length := by simpa using h1
  have getT : ∀ (j : Nat) o, j < m → ops[j]? = some o → (ops.take m)[j]? = some o := fun j o hj ho => by rw [List.getElem?_take, if_pos hj]; exact ho
  have h4' : ∀ (j : Nat) o, j < m → ops[j]? = some o → ((match o.dst with | some d => Nat.blt d N && l.all (fun p => !Nat.beq p.1 d) | none => false) && calm o.op && (match o.guard with | some (g, _) => (aftersOf o).contains g | none => true)) = true := fun j o hj ho =>
    (List.all_eq_true.1 h4) o (List.mem_of_getElem? (getT j o hj ho))
  have hdst : ∀ (j : Nat) o, j < m → ops[j]? = some o → o.dst = some (dstOf ops j) ∧ dstOf ops j < N ∧ ∀ p ∈ l, p.1 ≠ dstOf ops j := by
    intro j o hj ho
    have := h4' j o hj ho
    simp only [Bool.and_eq_true] at this
    obtain ⟨⟨ha, _⟩, _⟩ := this
    cases hd : o.dst with
    | none => rw [hd] at ha; cases ha
    | some d =>
      rw [hd] at ha
      simp only [Bool.and_eq_true] at ha
      have e : dstOf ops j = d := by simp [dstOf, ho, hd]
      rw [e]
      refine ⟨rfl, by simpa using ha.1, fun p hp => ?_⟩
      have := (List.all_eq_true.1 ha.2) p hp
      intro e2
      rw [e2, Nat.beq_refl] at this
      cases this
  refine ⟨h1, ?_, ?_, fun j o hj ho => ⟨(hdst j o hj ho).1, (hdst j o hj ho).2.1⟩, ?_, ?_, ?_, ?_⟩
  · intro j o ho i hi
    have hz : (o, j) ∈ ops.zipIdx := by
      rw [List.mk_mem_zipIdx_iff_getElem?]; exact ho
    have := (List.all_eq_true.1 h2) _ hz
    have := (List.all_eq_true.1 this) i hi
    simpa using this
  · intro j o hj ho i hi
    have hjl := (List.getElem?_eq_some_iff.1 ho).1
    have h1 := (List.all_eq_true.1 h3) (j - m) (by simp; omega)
    have h2 := (List.all_eq_true.1 h1) i (by simp; omega)
    obtain ⟨o', hmem, hc⟩ := List.any_eq_true.1 h2
    obtain ⟨n, hn⟩ := List.mem_iff_getElem?.1 hmem
    rw [List.getElem?_drop, List.getElem?_take] at hn
    split at hn
    · exact ⟨i + 1 + n, o', by omega, by omega, hn, by simpa using hc⟩
    · cases hn
  · intro j hj
    have ho : ops[j]? = some (ops[j]'(by omega)) := List.getElem?_eq_getElem _
    exact (hdst j _ hj ho).2.2
  · intro j o hj ho
    have := h4' j o hj ho
    simp only [Bool.and_eq_true] at this
    exact this.1.2
  · intro j o hj ho g b hg
    have := h4' j o hj ho
    simp only [Bool.and_eq_true, hg] at this
    simpa using this.2
  · have key : ∀ i j, i < m → j < m → i < j → dstOf ops i ≠ dstOf ops j := by
      intro i j hi hj hij
      have hz : (dstOf ops j, j) ∈ ((ops.take m).map (fun o => o.dst.getD 0)).zipIdx := by
        rw [List.mk_mem_zipIdx_iff_getElem?, List.getElem?_map, List.getElem?_take, if_pos hj, List.getElem?_eq_getElem (by omega)]
        simp [dstOf, List.getElem?_eq_getElem (show j < ops.length by omega)]
      have := (List.all_eq_true.1 h5) _ hz
      have hmem : dstOf ops i ∈ (((ops.take m).map (fun o => o.dst.getD 0)).take j) := by
        apply List.mem_of_getElem? (i := i)
        rw [List.getElem?_take, if_pos hij, List.getElem?_map, List.getElem?_take, if_pos hi, List.getElem?_eq_getElem (by omega)]
        simp [dstOf, List.getElem?_eq_getElem (show i < ops.length by omega)]
      have := (List.all_eq_true.1 this) _ hmem
      intro e
      rw [e, Nat.beq_refl] at this
      cases this
    intro i j hi hj hne
    rcases Nat.lt_or_gt_of_ne hne with h | h
    · exact key i j hi hj h
    · exact (key j i hj hi h).symm
section
variable {r : Option Nat} {n : Nat} {P : Program} {N : Nat} {D : List Deferred} {l : Env}
/-- A call of a function that has a body. -/
def Enters (P : Program) (l : Env) (o : Oper) (f : FuncId) (vs : List Value) : Prop := ∀ ev w, Ev l ev → (execOp ev o).run P w = .ok (.enter f vs.toArray) w
/-- Carried out in w, where l is known, o yields a value that satisfies R, and the world has grown. -/
def OpOK (P : Program) (l : Env) (o : Oper) (w : World) (R : Value → Nat × Nat → World → Prop) : Prop :=
  (∃ v w', Run1 P l o w v w' ∧ Gr w w' ∧ R v (w.heap.size, w'.heap.size) w')
def CallOK (P : Program) (l : Env) (o : Oper) (w : World) (R : Value → Nat × Nat → World → Prop) : Prop :=
  (∃ f vs, Enters P l o f vs ∧ Ret P f vs w (fun v w' => Gr w w' ∧ R v (w.heap.size, w'.heap.size) w'))
def onB (σ : Nat → Value) (o : Oper) : Prop := match o.guard with
  | none => True
  | some (g, b) => σ g = .bool b
/-- What operation k has yielded. -/
def Fact (ops : List Oper) (R : Nat → (Nat → Value) → Value → Nat × Nat → World → Prop) (k : Nat) (σ : Nat → Value) (q : Nat × Nat) (w : World) : Prop :=
  ∀ o, ops[k]? = some o → (onB σ o → R k σ (σ k) q w) ∧ (¬ onB σ o → σ k = undef)
def depEnv (ops : List Oper) (σ : Nat → Value) (ks : List Nat) : Env := ks.map fun k => (dstOf ops k, σ k)
theorem look_append : ∀ (l m : Env) (t : Nat) (v : Value), look (l ++ m) t = some v → look l t = some v ∨ look m t = some v
  | [], m, t, v, h => .inr h
  | (k, u) :: l, m, t, v, h => by
    simp only [List.cons_append, look] at h ⊢
    cases hb : Nat.beq k t with
    | true => rw [hb] at h; exact .inl h
    | false => rw [hb] at h; simp only [cond] at h ⊢; exact look_append l m t v h
theorem look_mem : ∀ (l : Env) (t : Nat) (v : Value), look l t = some v → (t, v) ∈ l
  | [], _, _, h => by cases h
  | (k, u) :: l, t, v, h => by
    simp only [look] at h
    cases hb : Nat.beq k t with
    | true => rw [hb] at h; simp only [cond] at h; injection h with h; subst h; rw [Nat.eq_of_beq_eq_true hb]; simp
    | false => rw [hb] at h; simp only [cond] at h; exact List.mem_cons_of_mem _ (look_mem l t v h)
theorem Holds.join {a : Act} {l m : Env} (H : Holds N D a l) (hm : ∀ t v, (t, v) ∈ m → a.tmps.getD t undef = v) : Holds N D a (m ++ l) :=
  ⟨H.d, H.n, fun t v h => by
    rcases look_append m l t v h with h | h
    · exact hm t v (look_mem m t v h)
    · exact H.h t v h⟩
theorem put_getD {a : Act} {d t : Nat} {v : Value} (hd : d < a.tmps.size) : (a.put (some d) v).tmps.getD t undef = if d = t then v else a.tmps.getD t undef := by
  simp only [Act.put, Array.getD_eq_getD_getElem?, Array.getElem?_setIfInBounds]
  by_cases e : d = t
  · subst e; simp [hd]
  · simp [e]
theorem count_set {L : Array Bool} {i : Nat} (h : L.getD i true = false) : (L.setIfInBounds i true).toList.count false + 1 = L.toList.count false := by
  have hi : i < L.size := by
    rcases Nat.lt_or_ge i L.size with h' | h'
    · exact h'
    · simp [Array.getD, Nat.not_lt.2 h'] at h
  have hv : L.toList[i]'(by simpa using hi) = false := by simpa [Array.getD, hi] using h
  rw [Array.toList_setIfInBounds]
  have := List.count_set (l := L.toList) (a := true) (b := false) (i := i) (h := by simpa using hi)
  rw [this]
  have hi' : i < L.toList.length := by simpa using hi
  have e1 : (L.toList[i]'hi' == false) = true := by rw [hv]; rfl
  have e2 : ((true : Bool) == false) = false := rfl
  simp only [e1, e2, if_true, Bool.false_eq_true, if_false]
  have hpos : 0 < L.toList.count false := List.count_pos_iff.2 (by rw [← hv]; exact List.getElem_mem _)
  omega
theorem mem_afters {o : Oper} {e : Edge} (he : e ∈ o.after) (hb : Region.binds .any e = true) : e.on ∈ aftersOf o := by
  simp only [aftersOf, List.mem_map, List.mem_filter]
  exact ⟨e, ⟨by simpa using he, hb⟩, rfl⟩
theorem ready_of_left {ops : Array Oper} {L : Array Bool} (hlow : ∀ (j : Nat) o, ops[j]? = some o → ∀ i ∈ aftersOf o, i < j) (hs : L.size = ops.size) (hc : 0 < L.toList.count false) : Region.ready .any ops L ≠ [] := by
  have hex : ∃ j, L.getD j true = false := by
    have := List.count_pos_iff.1 hc
    obtain ⟨j, hj, e⟩ := List.mem_iff_getElem.1 this
    refine ⟨j, ?_⟩
    have hj' : j < L.size := by simpa using hj
    simpa [Array.getD, hj'] using e
  obtain ⟨j, hj, hmin⟩ := least hex
  have hjs : j < L.size := by
    rcases Nat.lt_or_ge j L.size with h | h
    · exact h
    · simp [Array.getD, Nat.not_lt.2 h] at hj
  have : j ∈ Region.ready .any ops L := by
    rw [mem_ready]
    refine ⟨hj, ops[j]'(by omega), Array.getElem?_eq_getElem _, fun e he hbd => ?_⟩
    have hlt := hlow j _ (Array.getElem?_eq_getElem (by omega)) e.on (mem_afters he hbd)
    cases hb : L.getD e.on true with
    | false => have := hmin _ hb; omega
    | true =>
      have h' : e.on < L.size := by omega
      simpa [Array.getD, h'] using hb
  intro e
  rw [e] at this
  cases this
theorem tail_any {ops : List Oper} {Q : Exit → Act → World → Prop} {m : Nat} {l' : Env} (ok : RegOK N m ops l') : ∀ (fuel j : Nat) (L : Array Bool) (a : Act) (w : World), m ≤ j → j + fuel = ops.length → L.size = ops.length → (∀ i, i < ops.length → L.getD i true = decide (i < j)) →
    wpListIn (Fr r) n P ops.toArray Q (ops.drop j) a w → wpAnyIn (Fr r) n P .any ops.toArray Q fuel L a w := by
  intro fuel
  induction fuel with
  | zero =>
    intro j L a w hj hf hs hL h
    rw [List.drop_eq_nil_of_le (by omega)] at h
    refine ⟨?_, h⟩
    apply List.eq_nil_iff_forall_not_mem.2
    intro i hi
    have := (mem_ready.1 hi).1
    have hi' : i < L.size := by
      rcases Nat.lt_or_ge i L.size with h' | h'
      · exact h'
      · simp [Array.getD, Nat.not_lt.2 h'] at this
    rw [hL i (by omega)] at this
    simp at this
    omega
  | succ fuel ih =>
    intro j L a w hj hf hs hL h
    have hjl : j < ops.length := by omega
    have hne : Region.ready .any ops.toArray L ≠ [] := by
      refine ready_of_left (fun k o ho => ok.low k o (by simpa using ho)) (by simpa using hs) (List.count_pos_iff.2 ?_)
      have : L.toList[j]'(by simp; omega) = false := by
        have := hL j hjl
        simpa [Array.getD, show j < L.size by omega] using this
      rw [← this]; exact List.getElem_mem _
    refine ⟨fun e => absurd e hne, fun i hi => ?_⟩
    obtain ⟨h1, o, ho, h2⟩ := mem_ready.1 hi
    have hio : ops[i]? = some o := by simpa using ho
    have hil : i < ops.length := (List.getElem?_eq_some_iff.1 hio).1
    have hij : ¬ i < j := by
      have := hL i hil
      rw [h1] at this
      simpa using this
    have : i = j := by
      rcases Nat.lt_or_ge j i with h' | h'
      · have chain : ∀ d k, i - k = d → j ≤ k → k < i → False := by
          intro d
          induction d using Nat.strongRecOn with
          | _ d ihd =>
            intro k hd hjk hki
            obtain ⟨k', o', h3, h4, h5, h6⟩ := ok.tail i o (by omega) hio k hki
            rcases Nat.lt_or_ge k' i with h7 | h7
            · exact ihd (i - k') (by omega) k' rfl (by omega) h7
            · have e7 : k' = i := by omega
              subst e7
              rw [hio] at h5
              injection h5 with h5
              subst h5
              simp only [aftersOf, List.mem_map, List.mem_filter] at h6
              obtain ⟨e, ⟨he, hb⟩, hon⟩ := h6
              have := h2 e (by simpa using he) hb
              rw [hon] at this
              have hb' := hL k (by omega)
              have hks : k < L.size := by omega
              simp [Array.getD, hks] at this hb'
              rw [this] at hb'
              simp at hb'
              omega
        exact (chain _ j rfl (Nat.le_refl _) h').elim
      · omega
    subst this
    rw [List.drop_eq_getElem_cons hjl] at h
    have e0 : ops[i] = o := by rw [List.getElem?_eq_getElem hjl] at hio; injection hio
    rw [e0] at h
    unfold wpListIn at h
    unfold wpOpIn
    simp only [ho]
    have next : ∀ a w, wpListIn (Fr r) n P ops.toArray Q (ops.drop (i + 1)) a w → wpAnyIn (Fr r) n P .any ops.toArray Q fuel (L.setIfInBounds i true) a w := fun a w h => ih (i + 1) _ a w (by omega) (by omega) (by simpa using hs) (fun k hk => by
      by_cases hki : i = k
      · subst hki
        have : i < L.size := by omega
        simp [Array.getD, this]
      · rw [getD_set_ne true hki, hL k hk]
        simp
        omega) h
    split at h
    · rename_i hw
      rw [if_pos hw]
      exact Oper.wpIn_mono next h
    · rename_i hw
      rw [if_neg hw]
      exact ⟨h.1, next _ _ h.2⟩
theorem Fact.mono {ops : List Oper} {R : Nat → (Nat → Value) → Value → Nat × Nat → World → Prop} (mono : ∀ k σ v q w w', Gr w w' → R k σ v q w → R k σ v q w') {k : Nat} {σ : Nat → Value} {q : Nat × Nat} {w w' : World} (hg : Gr w w') (h : Fact ops R k σ q w) : Fact ops R k σ q w' :=
  fun o ho => ⟨fun hon => mono _ _ _ _ _ _ hg ((h o ho).1 hon), (h o ho).2⟩
theorem wanted_iff {ops : List Oper} {m : Nat} {l0 : Env} (ok : RegOK N m ops l0) {a : Act} (hN : a.tmps.size = N) {i : Nat} {o : Oper} (hi : i < m) (ho : ops[i]? = some o) {σ : Nat → Value} (hσ : ∀ g b, o.guard = some (g, b) → σ g = a.tmps.getD (dstOf ops g) undef) :
    Region.wanted o (yielded ops.toArray a.tmps) = true ↔ onB σ o := by
  unfold Region.wanted onB
  cases hg : o.guard with
  | none => simp
  | some gb =>
    obtain ⟨g, b⟩ := gb
    have hmem := ok.gd i o hi ho g b hg
    have hlt : g < i := ok.low i o ho g hmem
    obtain ⟨og, hog⟩ : ∃ og, ops[g]? = some og := ⟨_, List.getElem?_eq_getElem (by have := ok.hm; omega)⟩
    obtain ⟨hd, hdN⟩ := ok.dst g og (by omega) hog
    have hs := hσ g b hg
    have hlt2 : dstOf ops g < a.tmps.size := by omega
    have hy : yielded ops.toArray a.tmps g = match σ g with | .bool b => some b | _ => none := by
      have e1 : ((ops.toArray[g]?).bind (·.dst)).bind (a.tmps[·]?) = some (σ g) := by
        rw [hs]
        simp [hog, hd, Array.getD, hlt2]
      unfold yielded
      rw [e1]
      cases σ g <;> rfl
    simp only [hy]
    cases hv : σ g <;> simp
/-- The blocks that each operation has made lie apart. -/
def Apart (D : Nat → Prop) (ι : Nat → Nat × Nat) (lo hi : Nat) : Prop := (∀ k, D k → lo ≤ (ι k).1 ∧ (ι k).1 ≤ (ι k).2 ∧ (ι k).2 ≤ hi) ∧ (∀ i j, D i → D j → i ≠ j → (ι i).2 ≤ (ι j).1 ∨ (ι j).2 ≤ (ι i).1)
def ApartM (m : Nat) (ι : Nat → Nat × Nat) (lo hi : Nat) : Prop := (∀ k, k < m → lo ≤ (ι k).1 ∧ (ι k).1 ≤ (ι k).2 ∧ (ι k).2 ≤ hi) ∧ (∀ i j, i < m → j < m → i ≠ j → (ι i).2 ≤ (ι j).1 ∨ (ι j).2 ≤ (ι i).1)
/-- **A region that draws its order**: m operations in front, whose order is open; what stands behind them waits for all. -/
theorem w_draw {ops : List Oper} {rid m : Nat} {Q : Exit → Act → World → Prop} {a : Act} {w : World} {l0 : Env} (R : Nat → (Nat → Value) → Value → Nat × Nat → World → Prop) (isCall : Nat → Bool) (hfol : P.follows .mixedOrders = true) (H : Holds N D a l) (hsub : Sub l l0) (hB : regB N m ops l0 = true)
    (mono : ∀ k σ v q w w', Gr w w' → R k σ v q w → R k σ v q w')
    (call : ∀ k, isCall k = true → ∀ σ σ' v q w, R k σ v q w → R k σ' v q w)
    (prog : ∀ (j : Nat) o, j < m → ops[j]? = some o → ∀ σ (ι : Nat → Nat × Nat) w1, Gr w.drew w1 → (∀ k ∈ aftersOf o, Fact ops R k σ (ι k) w1) → onB σ o → if isCall j then CallOK P (depEnv ops σ (aftersOf o) ++ l0) o w1 (R j σ) else OpOK P (depEnv ops σ (aftersOf o) ++ l0) o w1 (R j σ))
    (fin : ∀ σ (ι : Nat → Nat × Nat) a' w1, Gr w.drew w1 → Holds N D a' (depEnv ops σ (List.range m) ++ l0) → (∀ k, k < m → Fact ops R k σ (ι k) w1) → ApartM m ι w.heap.size w1.heap.size → wpListIn (Fr r) n P ops.toArray Q (ops.drop m) a' w1) :
    (Code.region rid ops.toArray true).wpIn (Fr r) n P Q a w := by
  have ok := regB_ok hB
  have hm := ok.hm
  have key : ∀ (fuel : Nat) (L : Array Bool) (a : Act) (w1 : World) (ι : Nat → Nat × Nat), L.size = ops.length → L.toList.count false = fuel → (∀ i, m ≤ i → i < ops.length → L.getD i true = false) → (∀ i o, ops[i]? = some o → L.getD i true = true → ∀ k ∈ aftersOf o, L.getD k true = true) → Gr w.drew w1 → Holds N D a l0 → Apart (fun k => k < m ∧ L.getD k true = true) ι w.heap.size w1.heap.size →
      (∀ σ : Nat → Value, (∀ k, k < m → L.getD k true = true → σ k = a.tmps.getD (dstOf ops k) undef) → ∀ k, k < m → L.getD k true = true → Fact ops R k σ (ι k) w1) → wpAnyIn (Fr r) n P .any ops.toArray Q fuel L a w1 := by
    intro fuel
    induction fuel with
    | zero =>
      intro L a w1 ι hs hc hT hD hg H0 hAp inv
      have hall : ∀ i, i < ops.length → L.getD i true = true := by
        intro i hi
        cases hb : L.getD i true with
        | true => rfl
        | false =>
          have h1 : i < L.size := by omega
          have : false ∈ L.toList := by
            have e : L.toList[i]'(by simpa using h1) = false := by simpa [Array.getD, h1] using hb
            rw [← e]; exact List.getElem_mem _
          have := List.count_pos_iff.2 this
          omega
      have hmn : m = ops.length := by
        rcases Nat.lt_or_ge m ops.length with h' | h'
        · have h1 := hT m (Nat.le_refl _) h'
          rw [hall m h'] at h1; cases h1
        · omega
      have h2 := fin (fun k => a.tmps.getD (dstOf ops k) undef) ι a w1 hg (H0.join (fun t v hmem => by
        simp only [depEnv, List.mem_map] at hmem
        obtain ⟨k, _, e⟩ := hmem
        injection e with e1 e2
        subst e1; exact e2)) (fun k hk => inv _ (fun _ _ _ => rfl) k hk (hall k (by omega))) ⟨fun k hk => hAp.1 k ⟨hk, hall k (by omega)⟩, fun i j hi hj => hAp.2 i j ⟨hi, hall i (by omega)⟩ ⟨hj, hall j (by omega)⟩⟩
      rw [List.drop_eq_nil_of_le (by omega)] at h2
      refine ⟨?_, h2⟩
      apply List.eq_nil_iff_forall_not_mem.2
      intro i hi
      obtain ⟨h1, o, ho, _⟩ := mem_ready.1 hi
      have : i < ops.length := by
        have := (Array.getElem?_eq_some_iff.1 ho).1
        simpa using this
      rw [hall i this] at h1
      cases h1
    | succ fuel ih =>
      intro L a w1 ι hs hc hT hD hg H0 hAp inv
      by_cases hfront : ∀ k, k < m → L.getD k true = true
      · have h2 := fin (fun k => a.tmps.getD (dstOf ops k) undef) ι a w1 hg (H0.join (fun t v hmem => by
          simp only [depEnv, List.mem_map] at hmem
          obtain ⟨k, _, e⟩ := hmem
          injection e with e1 e2
          subst e1; exact e2)) (fun k hk => inv _ (fun _ _ _ => rfl) k hk (hfront k hk)) ⟨fun k hk => hAp.1 k ⟨hk, hfront k hk⟩, fun i j hi hj => hAp.2 i j ⟨hi, hfront i hi⟩ ⟨hj, hfront j hj⟩⟩
        have hL : ∀ i, i < ops.length → L.getD i true = decide (i < m) := by
          intro i hi
          by_cases h' : i < m
          · rw [hfront i h']; simp [h']
          · rw [hT i (by omega) hi]; simp [h']
        have hcnt : m + (fuel + 1) = ops.length := by
          have hLl : L.toList = List.replicate m true ++ List.replicate (ops.length - m) false := by
            apply List.ext_getElem
            · simp; omega
            · intro i h1 h2
              have h1' : i < L.size := by simpa using h1
              have := hL i (by omega)
              simp only [Array.getD, h1', dif_pos] at this
              rw [List.getElem_append]
              simp at this ⊢
              rw [this]
          rw [hLl] at hc
          simp [List.count_append, List.count_replicate] at hc
          omega
        exact tail_any ok (fuel + 1) m L a w1 (Nat.le_refl _) hcnt hs hL h2
      · have hne : Region.ready .any ops.toArray L ≠ [] := ready_of_left (fun k o ho => ok.low k o (by simpa using ho)) (by simpa using hs) (by omega)
        refine ⟨fun e => absurd e hne, fun i hi => ?_⟩
        obtain ⟨h1, o, ho, h2⟩ := mem_ready.1 hi
        have hio : ops[i]? = some o := by simpa using ho
        have hil : i < ops.length := (List.getElem?_eq_some_iff.1 hio).1
        have hlisted : ∀ k ∈ aftersOf o, L.getD k true = true ∧ k < i := by
          intro k hk
          have h4 := ok.low i o hio k hk
          simp only [aftersOf, List.mem_map, List.mem_filter] at hk
          obtain ⟨e, ⟨he, hb⟩, hon⟩ := hk
          have h3 := h2 e (by simpa using he) hb
          rw [hon] at h3
          have hks : k < L.size := by omega
          refine ⟨?_, h4⟩
          simpa [Array.getD, hks] using h3
        have him : i < m := by
          rcases Nat.lt_or_ge i m with h' | h'
          · exact h'
          · have chain : ∀ d k, i - k = d → k < i → L.getD k true = true := by
              intro d
              induction d using Nat.strongRecOn with
              | _ d ihd =>
                intro k hd hki
                obtain ⟨k', o', h3, h4, h5, h6⟩ := ok.tail i o h' hio k hki
                rcases Nat.lt_or_ge k' i with h7 | h7
                · exact hD k' o' h5 (ihd (i - k') (by omega) k' rfl h7) k h6
                · have e7 : k' = i := by omega
                  subst e7
                  rw [hio] at h5
                  injection h5 with h5
                  subst h5
                  exact (hlisted k h6).1
            exact absurd (fun k hk => chain _ k rfl (by omega)) hfront
        obtain ⟨hd, hdN⟩ := ok.dst i o him hio
        have hdsz : dstOf ops i < a.tmps.size := by rw [H0.n]; exact hdN
        have hgl : ∀ g b, o.guard = some (g, b) → g ∈ aftersOf o := fun g b hgb => ok.gd i o him hio g b hgb
        -- what any valuation that fits the frame knows
        have fitsEv : ∀ σ : Nat → Value, (∀ k, k < m → L.getD k true = true → σ k = a.tmps.getD (dstOf ops k) undef) → Ev (depEnv ops σ (aftersOf o) ++ l0) a.eval := by
          intro σ hσ
          refine (H0.join (fun t v hmem => ?_)).ev
          simp only [depEnv, List.mem_map] at hmem
          obtain ⟨k, hk, e⟩ := hmem
          injection e with e1 e2
          subst e1
          rw [← e2, hσ k (by have := hlisted k hk; omega) (hlisted k hk).1]
        have fitsOn : ∀ σ : Nat → Value, (∀ k, k < m → L.getD k true = true → σ k = a.tmps.getD (dstOf ops k) undef) → (Region.wanted o (yielded ops.toArray a.tmps) = true ↔ onB σ o) := fun σ hσ =>
          wanted_iff ok H0.n him hio (fun g b hgb => hσ g (by have := hlisted g (hgl g b hgb); omega) (hlisted g (hgl g b hgb)).1)
        have fitsP : ∀ σ : Nat → Value, (∀ k, k < m → L.getD k true = true → σ k = a.tmps.getD (dstOf ops k) undef) → onB σ o → if isCall i then CallOK P (depEnv ops σ (aftersOf o) ++ l0) o w1 (R i σ) else OpOK P (depEnv ops σ (aftersOf o) ++ l0) o w1 (R i σ) := fun σ hσ hon =>
          prog i o him hio σ ι w1 hg (fun k hk => inv σ hσ k (by have := hlisted k hk; omega) (hlisted k hk).1) hon
        have fit0 : ∀ k, k < m → L.getD k true = true → (fun k => a.tmps.getD (dstOf ops k) undef) k = a.tmps.getD (dstOf ops k) undef := fun _ _ _ => rfl
        -- a later valuation fits the frame before
        have fitsOld : ∀ v (σ : Nat → Value), (∀ k, k < m → (L.setIfInBounds i true).getD k true = true → σ k = (a.put (some (dstOf ops i)) v).tmps.getD (dstOf ops k) undef) → (∀ k, k < m → L.getD k true = true → σ k = a.tmps.getD (dstOf ops k) undef) ∧ σ i = v := by
          intro v σ hσ
          constructor
          · intro k hk hLk
            have hik : i ≠ k := fun e => by subst e; rw [h1] at hLk; cases hLk
            have h5 := hσ k hk (by rw [getD_set_ne true hik]; exact hLk)
            rw [put_getD hdsz, if_neg (ok.inj i k him hk hik)] at h5
            exact h5
          · have hils : i < L.size := by omega
            have h5 := hσ i him (by simp [Array.getD, hils])
            rw [put_getD hdsz, if_pos rfl] at h5
            exact h5
        have next : ∀ v w2, Gr w1 w2 → (∀ σ : Nat → Value, (∀ k, k < m → L.getD k true = true → σ k = a.tmps.getD (dstOf ops k) undef) → σ i = v → Fact ops R i σ (w1.heap.size, w2.heap.size) w2) → wpAnyIn (Fr r) n P .any ops.toArray Q fuel (L.setIfInBounds i true) (a.put (some (dstOf ops i)) v) w2 := by
          intro v w2 hg2 hF
          refine ih _ _ w2 (fun k => if k = i then (w1.heap.size, w2.heap.size) else ι k) (by simpa using hs) (by have := count_set h1; omega) (fun k hk hkl => ?_) (fun k ok' hok hLk k' hk' => ?_) (hg.trans hg2) ⟨H0.d, by simp [Act.put, H0.n], fun t u hu => ?_⟩ ⟨fun k ⟨hk, hLk⟩ => ?_, fun k j ⟨hk, hLk⟩ ⟨hj, hLj⟩ hne => ?_⟩ ?_
          · rw [getD_set_ne true (by omega)]; exact hT k hk hkl
          · have hup : ∀ q, L.getD q true = true → (L.setIfInBounds i true).getD q true = true := fun q hq => by
              by_cases hiq : i = q
              · subst hiq
                have : i < L.size := by omega
                simp [Array.getD, this]
              · rw [getD_set_ne true hiq]; exact hq
            by_cases hik : i = k
            · subst hik
              rw [hio] at hok
              injection hok with hok
              subst hok
              exact hup k' (hlisted k' hk').1
            · rw [getD_set_ne true hik] at hLk
              exact hup k' (hD k ok' hok hLk k' hk')
          · rw [put_getD hdsz, if_neg (fun e => ok.keys i him _ (look_mem l0 t u hu) e.symm)]
            exact H0.h t u hu
          · dsimp only
            by_cases hik : k = i
            · rw [if_pos hik]
              exact ⟨hg.size, hg2.size, Nat.le_refl _⟩
            · rw [if_neg hik]
              rw [getD_set_ne true (fun e => hik e.symm)] at hLk
              obtain ⟨b1, b2, b3⟩ := hAp.1 k ⟨hk, hLk⟩
              exact ⟨b1, b2, Nat.le_trans b3 hg2.size⟩
          · dsimp only
            by_cases hik : k = i
            · have hij : ¬ j = i := fun e => hne (hik.trans e.symm)
              rw [if_pos hik, if_neg hij]
              rw [getD_set_ne true (fun e => hij e.symm)] at hLj
              exact .inr (hAp.1 j ⟨hj, hLj⟩).2.2
            · rw [getD_set_ne true (fun e => hik e.symm)] at hLk
              rw [if_neg hik]
              by_cases hij : j = i
              · rw [if_pos hij]
                exact .inl (hAp.1 k ⟨hk, hLk⟩).2.2
              · rw [if_neg hij]
                rw [getD_set_ne true (fun e => hij e.symm)] at hLj
                exact hAp.2 k j ⟨hk, hLk⟩ ⟨hj, hLj⟩ hne
          · intro σ hσ k hk hLk
            obtain ⟨hold, hi'⟩ := fitsOld v σ hσ
            by_cases hik : i = k
            · subst hik; rw [if_pos rfl]; exact hF σ hold hi'
            · rw [getD_set_ne true hik] at hLk
              rw [if_neg (fun e => hik e.symm)]
              exact (inv σ hold k hk hLk).mono mono hg2
        unfold wpOpIn
        simp only [ho]
        by_cases hw : Region.wanted o (yielded ops.toArray a.tmps) = true
        · rw [if_pos hw]
          refine ⟨fun _ _ => trivial, ?_⟩
          rw [semAt_calm (ok.cal i o him hio)]
          have h3 := fitsP _ fit0 ((fitsOn _ fit0).1 hw)
          by_cases hcall : isCall i = true
          · rw [if_pos hcall] at h3
            obtain ⟨f, vs, hE, hRet⟩ := h3
            rw [hE _ _ (fitsEv _ fit0), Oper.uponIn_enter]
            refine ⟨(fun hd => (by cases hd)), CallsIn.Fr (Calls.mono hRet ?_) r _⟩
            rintro e w2 ⟨v, rfl, hg2, hR⟩
            show wpAnyIn (Fr r) n P .any ops.toArray Q fuel (L.setIfInBounds i true) (a.put o.dst v) w2
            rw [hd]
            refine next v w2 hg2 (fun σ hσ hσi o' ho' => ?_)
            rw [hio] at ho'
            injection ho' with ho'
            subst ho'
            exact ⟨fun _ => by rw [hσi]; exact call i hcall _ _ _ _ _ hR, fun hno => absurd ((fitsOn σ hσ).1 hw) hno⟩
          · rw [if_neg hcall] at h3
            obtain ⟨v, w2, hrun, hg2, hR⟩ := h3
            rw [hrun _ (fitsEv _ fit0), Oper.uponIn_value, hd]
            refine next v w2 hg2 (fun σ hσ hσi o' ho' => ?_)
            rw [hio] at ho'
            injection ho' with ho'
            subst ho'
            refine ⟨fun hon => ?_, fun hno => absurd ((fitsOn σ hσ).1 hw) hno⟩
            have h6 := fitsP σ hσ hon
            rw [if_neg hcall] at h6
            obtain ⟨v', w', hrun', _, hR'⟩ := h6
            have e1 := hrun' _ (fitsEv σ hσ)
            rw [hrun _ (fitsEv _ fit0)] at e1
            injection e1 with e1 e2
            injection e1 with e1
            subst e1 e2
            rw [hσi]; exact hR'
        · rw [if_neg hw]
          refine ⟨fun _ _ => trivial, ?_⟩
          rw [hd]
          refine next undef w1 (Gr.refl _) (fun σ hσ hσi o' ho' => ?_)
          rw [hio] at ho'
          injection ho' with ho'
          subst ho'
          exact ⟨fun hon => absurd ((fitsOn σ hσ).2 hon) hw, fun _ => hσi⟩
  refine wpIn_region_any hfol (key _ _ a _ (fun _ => (0, 0)) (by simp) (by simp [List.count_replicate]) (fun i hi hil => by simp [Array.getD, hil]) (fun i o ho hL => absurd hL (by have := (List.getElem?_eq_some_iff.1 ho).1; simp [Array.getD, this])) (Gr.refl _) (H.sub hsub) ⟨fun k ⟨hk, hL⟩ => absurd hL (by have := ok.hm; simp [Array.getD]; omega), fun k j ⟨hk, hL⟩ => absurd hL (by have := ok.hm; simp [Array.getD]; omega)⟩ (fun σ _ k hk hL => ?_))
  simp [Array.getD] at hL
  omega
def MonoR (R : (Nat → Value) → Value → Nat × Nat → World → Prop) : Prop := ∀ σ v q w w', Gr w w' → R σ v q w → R σ v q w'
def FreeR (p : ((Nat → Value) → Value → Nat × Nat → World → Prop) × Bool) : Prop := p.2 = true → ∀ σ σ' v q w, p.1 σ v q w → p.1 σ' v q w
theorem OpOK.eq {o : Oper} {w : World} {v : Value} (h : Run1 P l o w v w) : OpOK P l o w (fun u _ _ => u = v) := ⟨v, w, h, Gr.refl _, rfl⟩
theorem CallOK.V {o : Oper} {w : World} {v : Value} {f : FuncId} {vs : List Value} (h : Enters P l o f vs) (hc : Ret P f vs w (fun u w' => u = v ∧ Gr w w')) : CallOK P l o w (fun u _ _ => u = v) := ⟨f, vs, h, hc.mono fun u w' hu => ⟨hu.2, hu.1⟩⟩
/-- Some memory of the world w beside J, in the blocks q. -/
structure Part (J : Im) (q : Nat × Nat) (K : Im) (w : World) : Prop where
  le : Im.le J K
  sat : Sat K w
  dom : ∀ b, J b = none → K b ≠ none → q.1 ≤ b ∧ b < q.2
/-- A call that hands back memory. -/
theorem CallOK.M {o : Oper} {w : World} {J : Im} {Φ : Im → Value → Prop} {f : FuncId} {vs : List Value} (h : Enters P l o f vs) (hc : Ret P f vs w (fun u w' => ∃ K, New J w K w' ∧ Φ K u)) : CallOK P l o w (fun u q w' => ∃ K, Part J q K w' ∧ Φ K u) :=
  ⟨f, vs, h, hc.mono fun u w' ⟨K, hn, hu⟩ => ⟨hn.gr, K, ⟨hn.le, hn.sat, fun b h1 h2 => ⟨Nat.le_of_not_lt (fun hb => h2 (by rw [hn.old b hb]; exact h1)), by
    cases hk : K b with
    | none => exact absurd hk h2
    | some ob => exact hn.sat.lt hk⟩⟩, hu⟩⟩
theorem monoOwn {J : Im} {Φ : (Nat → Value) → Im → Value → Prop} : MonoR (fun σ u q w' => ∃ K, Part J q K w' ∧ Φ σ K u) := fun σ v q w w' hg ⟨K, h, hu⟩ => ⟨K, ⟨h.le, h.sat.gr hg, h.dom⟩, hu⟩
theorem CallOK.R {o : Oper} {w : World} {R : Value → World → Prop} {f : FuncId} {vs : List Value} (h : Enters P l o f vs) (hc : Ret P f vs w (fun u w' => R u w' ∧ Gr w w')) : CallOK P l o w (fun u _ w' => R u w') := ⟨f, vs, h, hc.mono fun u w' hu => ⟨hu.2, hu.1⟩⟩
/-- Two memories of one world. -/
def joinI (K L : Im) : Im := fun b => match K b with | some o => some o | none => L b
theorem joinI_left (K L : Im) : Im.le K (joinI K L) := fun b o h => by simp [joinI, h]
theorem joinI_right {K L : Im} {w : World} (hK : Sat K w) (hL : Sat L w) : Im.le L (joinI K L) := fun b o h => by
  unfold joinI
  cases hk : K b with
  | none => exact h
  | some o' => have h1 := hK b o' hk; have h2 := hL b o h; rw [h1] at h2; exact h2
theorem joinI_sat {K L : Im} {w : World} (hK : Sat K w) (hL : Sat L w) : Sat (joinI K L) w := fun b o h => by
  unfold joinI at h
  cases hk : K b with
  | none => rw [hk] at h; exact hL b o h
  | some o' => rw [hk] at h; injection h with h; subst h; exact hK b o' hk
theorem enters_of {f : FuncId} {x : Operand} {xs : List Operand} {ts : Array TypeId} {d : Option Nat} {ty : TypeId} {pos : String} {af : Array Edge} {g : Option (Nat × Bool)} {vs first capt : List Value} (hx : lk l x = some (.func (.func f) first.toArray capt.toArray)) (hxs : lks l xs = some vs) (hb : HasBody P f) :
    Enters P l ⟨d, .call { callee := .value x, args := xs.toArray, argTypes := ts }, ty, pos, af, g⟩ f (first ++ vs ++ capt) := by
  intro ev w h
  have h1 := h x _ hx
  have h2 := h.list xs vs hxs
  simp only [execOp, resolve, h1, Deferred.ofValue, Sem.run_bind, Sem.run_pure, Result.andThen_ok, invoke]
  rw [← hb (first ++ vs ++ capt).toArray w]
  congr 2
  simp [h2]
/-- A new block. -/
theorem OpOK.new {o : Oper} {w : World} {v : World → Value} {ob : World → Obj} (h : ∀ w, Run1 P l o w (v w) (w.alloc (ob w))) (R : Value → Nat × Nat → World → Prop) (hR : R (v w) (w.heap.size, (w.alloc (ob w)).heap.size) (w.alloc (ob w))) : OpOK P l o w R := ⟨_, _, h w, (Gr.refl _).alloc _, hR⟩
theorem Sub.ev {m : Env} {ev : Operand → Value} (hs : Sub l m) (h : Ev l ev) : Ev m ev := by
  intro x v hx
  cases x with
  | tmp t => exact h (.tmp t) v (hs.look m t v hx)
  | const u => exact h (.const u) v hx
  | global g => exact h (.global g) v hx
  | func f => exact h (.func f) v hx
theorem OpOK.sub {r : Env} {o : Oper} {w : World} {R : Value → Nat × Nat → World → Prop} (hs : Sub l r) (h : OpOK P r o w R) : OpOK P l o w R := by
  obtain ⟨v, w', h1, h2, h3⟩ := h
  exact ⟨v, w', fun ev hev => h1 ev (hs.ev hev), h2, h3⟩
theorem CallOK.sub {r : Env} {o : Oper} {w : World} {R : Value → Nat × Nat → World → Prop} (hs : Sub l r) (h : CallOK P r o w R) : CallOK P l o w R := by
  obtain ⟨f, vs, h1, h2⟩ := h
  exact ⟨f, vs, fun ev w hev => h1 ev w (hs.ev hev), h2⟩
theorem OpOK.id {o : Oper} {w : World} {R : Value → Nat × Nat → World → Prop} (h : OpOK P l o w R) : OpOK P l o w R := h
theorem OpOK.or {w : World} {B B2 : Bool} {dc dy : Nat} {kc ky : Value} {d : Option Nat} {ty : TypeId} {pos : String} {af : Array Edge} {g : Option (Nat × Bool)} (hc : look l dc = some kc) (hy : look l dy = some ky) (ec : kc = .bool B) (h : B = false → ky = .bool B2) :
    OpOK P l ⟨d, .pick (.tmp dc) (.const (.bool true)) (.tmp dy), ty, pos, af, g⟩ w (fun u _ _ => u = .bool (B || B2)) := by
  subst ec
  cases B with
  | true => exact ⟨_, _, r_pick_t (x := .const (.bool true)) hc rfl, Gr.refl _, rfl⟩
  | false => rw [h rfl] at hy; exact ⟨_, _, r_pick_f (y := .tmp dy) hc hy, Gr.refl _, by simp⟩
theorem OpOK.and {w : World} {B B2 : Bool} {dc dy : Nat} {kc ky : Value} {d : Option Nat} {ty : TypeId} {pos : String} {af : Array Edge} {g : Option (Nat × Bool)} (hc : look l dc = some kc) (hy : look l dy = some ky) (ec : kc = .bool B) (h : B = true → ky = .bool B2) :
    OpOK P l ⟨d, .pick (.tmp dc) (.tmp dy) (.const (.bool false)), ty, pos, af, g⟩ w (fun u _ _ => u = .bool (B && B2)) := by
  subst ec
  cases B with
  | true => rw [h rfl] at hy; exact ⟨_, _, r_pick_t (x := .tmp dy) hc hy, Gr.refl _, by simp⟩
  | false => exact ⟨_, _, r_pick_f (y := .const (.bool false)) hc rfl, Gr.refl _, rfl⟩
def updF {α : Type} (f : Nat → α) (j : Nat) (x : α) : Nat → α := fun k => cond (Nat.beq k j) x (f k)
theorem updF_at {α : Type} (f : Nat → α) (j : Nat) (x : α) : updF f j x j = x := by simp [updF]
theorem updF_ne {α : Type} (f : Nat → α) {j k : Nat} (x : α) (h : k ≠ j) : updF f j x k = f k := by
  have : Nat.beq k j = false := by
    cases hb : Nat.beq k j with
    | false => rfl
    | true => exact absurd (Nat.eq_of_beq_eq_true hb) h
  simp [updF, this]
abbrev DR := (Nat → Value) → Value → Nat × Nat → World → Prop
/-- The operations of a region one after the other, each with what it yields; then what follows. -/
def ProgsE (P : Program) (ops : List Oper) (l0 : Env) (w : World) (K : (Nat → DR) → Prop) : List Oper → Nat → Nat → (Nat → DR) → (Nat → Bool) → Prop
  | _, _, 0, RF, _ => K RF
  | [], _, _ + 1, _, _ => False
  | o :: os, j, n + 1, RF, CF => ∃ (R : DR) (c : Bool), (∀ σ (ι : Nat → Nat × Nat) w1, Gr w.drew w1 → (∀ k ∈ aftersOf o, Fact ops RF k σ (ι k) w1) → onB σ o → cond c (CallOK P (depEnv ops σ (aftersOf o) ++ l0) o w1 (R σ)) (OpOK P (depEnv ops σ (aftersOf o) ++ l0) o w1 (R σ))) ∧ MonoR R ∧ FreeR (R, c) ∧ ProgsE P ops l0 w K os (j + 1) n (updF RF j R) (updF CF j c)
theorem progsE_get {ops : List Oper} {l0 : Env} {w : World} {K : (Nat → DR) → Prop} (hlow : ∀ (j : Nat) o, ops[j]? = some o → ∀ k ∈ aftersOf o, k < j) : ∀ (n : Nat) (os : List Oper) (j : Nat) (RF : Nat → DR) (CF : Nat → Bool), os = ops.drop j → ProgsE P ops l0 w K os j n RF CF →
    ∃ (RF' : Nat → DR) (CF' : Nat → Bool), (∀ k, (k < j ∨ j + n ≤ k) → RF' k = RF k ∧ CF' k = CF k) ∧ K RF' ∧
      (∀ i o, j ≤ i → i < j + n → ops[i]? = some o → ∀ σ (ι : Nat → Nat × Nat) w1, Gr w.drew w1 → (∀ k ∈ aftersOf o, Fact ops RF' k σ (ι k) w1) → onB σ o → cond (CF' i) (CallOK P (depEnv ops σ (aftersOf o) ++ l0) o w1 (RF' i σ)) (OpOK P (depEnv ops σ (aftersOf o) ++ l0) o w1 (RF' i σ))) ∧
      (∀ i, j ≤ i → i < j + n → MonoR (RF' i) ∧ FreeR (RF' i, CF' i))
  | 0, os, j, RF, CF, _, h => ⟨RF, CF, fun _ _ => ⟨rfl, rfl⟩, (by cases os <;> exact h), fun i o h1 h2 => by omega, fun i h1 h2 => by omega⟩
  | n + 1, [], j, RF, CF, _, h => h.elim
  | n + 1, x :: os, j, RF, CF, hos, h => by
    obtain ⟨R, c, h1, h2, h3, h4⟩ := h
    have hx : ops[j]? = some x := by
      have : (ops.drop j)[0]? = some x := by rw [← hos]; rfl
      simpa using this
    have hos' : os = ops.drop (j + 1) := by
      have := congrArg List.tail hos
      simpa using this
    obtain ⟨RF', CF', k1, k2, k3, k4⟩ := progsE_get hlow n os (j + 1) (updF RF j R) (updF CF j c) hos' h4
    have ej : RF' j = R ∧ CF' j = c := by
      obtain ⟨a1, a2⟩ := k1 j (.inl (by omega))
      rw [updF_at] at a1 a2
      exact ⟨a1, a2⟩
    have eo : ∀ k, (k < j ∨ j + (n + 1) ≤ k) → RF' k = RF k ∧ CF' k = CF k := by
      intro k hk
      obtain ⟨a1, a2⟩ := k1 k (by omega)
      rw [updF_ne _ _ (by omega)] at a1 a2
      exact ⟨a1, a2⟩
    refine ⟨RF', CF', eo, k2, ?_, ?_⟩
    · intro i o hi1 hi2 ho σ ι w1 hg hd hon
      by_cases e : i = j
      · subst e
        rw [hx] at ho
        injection ho with ho
        subst ho
        rw [ej.1, ej.2]
        refine h1 σ ι w1 hg (fun k hk => ?_) hon
        have hkl := hlow _ _ hx k hk
        intro o' ho'
        have := hd k hk o' ho'
        rw [(eo k (.inl hkl)).1] at this
        exact this
      · exact k3 i o (by omega) (by omega) ho σ ι w1 hg hd hon
    · intro i hi1 hi2
      by_cases e : i = j
      · subst e
        rw [ej.1, ej.2]
        exact ⟨h2, h3⟩
      · exact k4 i (by omega) (by omega)
/-- A region that draws its order, shown operation by operation. -/
theorem w_drawE {ops : List Oper} {rid m : Nat} {Q : Exit → Act → World → Prop} {a : Act} {w : World} {l0 : Env} (hfol : P.follows .mixedOrders = true) (H : Holds N D a l) (hsub : Sub l l0) (hB : regB N m ops l0 = true)
    (h : ProgsE P ops l0 w (fun RF => ∀ σ (ι : Nat → Nat × Nat) a' w1, Gr w.drew w1 → Holds N D a' (depEnv ops σ (List.range m) ++ l0) → (∀ k, k < m → Fact ops RF k σ (ι k) w1) → ApartM m ι w.heap.size w1.heap.size → wpListIn (Fr r) n P ops.toArray Q (ops.drop m) a' w1) ops 0 m (fun _ _ _ _ _ => True) (fun _ => false)) :
    (Code.region rid ops.toArray true).wpIn (Fr r) n P Q a w := by
  have ok := regB_ok hB
  have hlow : ∀ (j : Nat) o, ops[j]? = some o → ∀ k ∈ aftersOf o, k < j := ok.low
  obtain ⟨RF, CF, k1, k2, k3, k4⟩ := progsE_get hlow m ops 0 _ _ (by simp) h
  simp only [Nat.zero_add, Nat.zero_le, true_implies] at k1 k3 k4
  refine w_draw RF CF hfol H hsub hB ?_ ?_ ?_ k2
  · intro k σ v q w w' hg h
    rcases Nat.lt_or_ge k m with hk | hk
    · exact (k4 k hk).1 σ v q w w' hg h
    · rw [(k1 k (.inr hk)).1]; trivial
  · intro k hk σ σ' v q w h
    rcases Nat.lt_or_ge k m with hkm | hkm
    · exact (k4 k hkm).2 hk σ σ' v q w h
    · rw [(k1 k (.inr hkm)).1]; trivial
  · intro j o hj ho σ ι w1 hg hd hon
    have := k3 j o hj ho σ ι w1 hg hd hon
    cases hc : CF j with
    | true => rw [hc] at this; rw [if_pos rfl]; exact this
    | false => rw [hc] at this; rw [if_neg (by simp)]; exact this
theorem FreeR.no (R : (Nat → Value) → Value → Nat × Nat → World → Prop) : FreeR (R, false) := fun h => by cases h
theorem MonoR.eq (V : (Nat → Value) → Value) : MonoR (fun σ u _ _ => u = V σ) := fun _ _ _ _ _ _ h => h
end
end Go.Proofs.Ytjjpaghloaggeaa
