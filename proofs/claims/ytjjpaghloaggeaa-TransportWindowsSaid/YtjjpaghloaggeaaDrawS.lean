/- A region that draws its order, with a store that does not wait for some pure operations; no program. -/
import Derived.Test.YtjjpaghloaggeaaStep
set_option linter.unusedVariables false
set_option linter.unusedSimpArgs false
namespace Go.Proofs.Ytjjpaghloaggeaa
open Go.RowKit
section
variable {r : Option Nat} {n : Nat} {P : Program} {N : Nat} {D : List Deferred} {l : Env}
theorem Run0.sub {m : Env} {o : Oper} {w w' : World} (hs : Sub l m) (h : Run0 P m o w w') : Run0 P l o w w' := fun ev hev => h ev (hs.ev hev)
theorem Run1.sub {m : Env} {o : Oper} {w w' : World} {v : Value} (hs : Sub l m) (h : Run1 P m o w v w') : Run1 P l o w v w' := fun ev hev => h ev (hs.ev hev)
def inL (E : List Nat) (k : Nat) : Bool := E.any (fun e => Nat.beq e k)
theorem inL_iff {E : List Nat} {k : Nat} : inL E k = true ↔ k ∈ E := by
  simp only [inL, List.any_eq_true]
  constructor
  · rintro ⟨e, he, hb⟩; rw [← Nat.eq_of_beq_eq_true hb]; exact he
  · intro h; exact ⟨k, h, Nat.beq_refl k⟩
/-- m operations whose order is open, behind them a store that waits for all of them but those of E, behind it operations that wait for all. -/
def regS (N m : Nat) (E : List Nat) (ops : List Oper) (l : Env) : Bool :=
  Nat.blt m ops.length &&
  (ops.zipIdx.all fun (o, j) => (aftersOf o).all (fun i => Nat.blt i j)) &&
  ((List.range (ops.length - (m + 1))).all fun j => (List.range (m + 1 + j)).all (fun i => ((ops.take (m + 1 + j + 1)).drop (i + 1)).any (fun o => (aftersOf o).contains i))) &&
  ((ops.take m).all fun o => (match o.dst with | some d => Nat.blt d N && l.all (fun p => !Nat.beq p.1 d) | none => false) && calm o.op && (match o.guard with | some (g, _) => (aftersOf o).contains g | none => true)) &&
  (((ops.take m).map (fun o => o.dst.getD 0)).zipIdx.all fun (d, j) => (((ops.take m).map (fun o => o.dst.getD 0)).take j).all (fun d' => !Nat.beq d' d)) &&
  ((List.range m).all fun i => inL E i || (ops.zipIdx.any fun (o, j) => Nat.blt i j && Nat.ble j m && !inL E j && (aftersOf o).contains i)) &&
  (E.all fun e => Nat.blt e m && (match ops[e]? with | some o => o.guard.isNone && (aftersOf o).all (inL E) | none => false)) &&
  (match ops[m]? with | some o => o.dst.isNone && o.guard.isNone && calm o.op | none => false)
structure RegS (N m : Nat) (E : List Nat) (ops : List Oper) (l : Env) : Prop where
  hm : m < ops.length
  low : ∀ (j : Nat) o, ops[j]? = some o → ∀ i ∈ aftersOf o, i < j
  tail : ∀ (j : Nat) o, m + 1 ≤ j → ops[j]? = some o → ∀ i, i < j → ∃ k o', i < k ∧ k ≤ j ∧ ops[k]? = some o' ∧ i ∈ aftersOf o'
  dst : ∀ (j : Nat) o, j < m → ops[j]? = some o → o.dst = some (dstOf ops j) ∧ dstOf ops j < N
  keys : ∀ j, j < m → ∀ p ∈ l, p.1 ≠ dstOf ops j
  cal : ∀ (j : Nat) o, j < m → ops[j]? = some o → calm o.op = true
  gd : ∀ (j : Nat) o, j < m → ops[j]? = some o → ∀ g b, o.guard = some (g, b) → g ∈ aftersOf o
  inj : ∀ i j, i < m → j < m → i ≠ j → dstOf ops i ≠ dstOf ops j
  chain : ∀ i, i < m → i ∉ E → ∃ j o, i < j ∧ j ≤ m ∧ j ∉ E ∧ ops[j]? = some o ∧ i ∈ aftersOf o
  late : ∀ e ∈ E, e < m ∧ ∀ o, ops[e]? = some o → o.guard = none ∧ ∀ k ∈ aftersOf o, k ∈ E
  st : ∀ o, ops[m]? = some o → o.dst = none ∧ o.guard = none ∧ calm o.op = true
theorem regS_ok {N m : Nat} {E : List Nat} {ops : List Oper} {l : Env} (h : regS N m E ops l = true) : RegS N m E ops l := by
  simp only [regS, Bool.and_eq_true] at h
  obtain ⟨⟨⟨⟨⟨⟨⟨h1, h2⟩, h3⟩, h4⟩, h5⟩, h6⟩, h7⟩, h8⟩ := h
  have h1 : m < ops.length := by simpa using h1
  have getT : ∀ (j : Nat) o, j < m → ops[j]? = some o → (ops.take m)[j]? = some o := fun j o hj ho => by rw [List.getElem?_take, if_pos hj]; exact ho
  have h4' : ∀ (j : Nat) o, j < m → ops[j]? = some o → ((match o.dst with | some d => Nat.blt d N && l.all (fun p => !Nat.beq p.1 d) | none => false) && calm o.op && (match o.guard with | some (g, _) => (aftersOf o).contains g | none => true)) = true := fun j o hj ho =>
    (List.all_eq_true.1 h4) o (List.mem_of_getElem? (getT j o hj ho))
  have hdst : ∀ (j : Nat) o, j < m → ops[j]? = some o → o.dst = some (dstOf ops j) ∧ dstOf ops j < N ∧ ∀ p ∈ l, p.1 ≠ dstOf ops j := by
    intro j o hj ho
    have := h4' j o hj ho
    simp only [Bool.and_eq_true] at this
    obtain ⟨⟨ha, _⟩, _⟩ := this
    cases hd : o.dst with
    | none => rw [hd] at ha; cases ha
    | some d =>
      rw [hd] at ha
      simp only [Bool.and_eq_true] at ha
      have e : dstOf ops j = d := by simp [dstOf, ho, hd]
      rw [e]
      refine ⟨rfl, by simpa using ha.1, fun p hp => ?_⟩
      have := (List.all_eq_true.1 ha.2) p hp
      intro e2
      rw [e2, Nat.beq_refl] at this
      cases this
  refine ⟨h1, ?_, ?_, fun j o hj ho => ⟨(hdst j o hj ho).1, (hdst j o hj ho).2.1⟩, ?_, ?_, ?_, ?_, ?_, ?_, ?_⟩
  · intro j o ho i hi
    have hz : (o, j) ∈ ops.zipIdx := by
      rw [List.mk_mem_zipIdx_iff_getElem?]; exact ho
    have := (List.all_eq_true.1 h2) _ hz
    have := (List.all_eq_true.1 this) i hi
    simpa using this
  · intro j o hj ho i hi
    have hjl := (List.getElem?_eq_some_iff.1 ho).1
    have h1 := (List.all_eq_true.1 h3) (j - (m + 1)) (by simp; omega)
    have h2 := (List.all_eq_true.1 h1) i (by simp; omega)
    obtain ⟨o', hmem, hc⟩ := List.any_eq_true.1 h2
    obtain ⟨n, hn⟩ := List.mem_iff_getElem?.1 hmem
    rw [List.getElem?_drop, List.getElem?_take] at hn
    split at hn
    · exact ⟨i + 1 + n, o', by omega, by omega, hn, by simpa using hc⟩
    · cases hn
  · intro j hj
    have ho : ops[j]? = some (ops[j]'(by omega)) := List.getElem?_eq_getElem _
    exact (hdst j _ hj ho).2.2
  · intro j o hj ho
    have := h4' j o hj ho
    simp only [Bool.and_eq_true] at this
    exact this.1.2
  · intro j o hj ho g b hg
    have := h4' j o hj ho
    simp only [Bool.and_eq_true, hg] at this
    simpa using this.2
  · have key : ∀ i j, i < m → j < m → i < j → dstOf ops i ≠ dstOf ops j := by
      intro i j hi hj hij
      have hz : (dstOf ops j, j) ∈ ((ops.take m).map (fun o => o.dst.getD 0)).zipIdx := by
        rw [List.mk_mem_zipIdx_iff_getElem?, List.getElem?_map, List.getElem?_take, if_pos hj, List.getElem?_eq_getElem (by omega)]
        simp [dstOf, List.getElem?_eq_getElem (show j < ops.length by omega)]
      have := (List.all_eq_true.1 h5) _ hz
      have hmem : dstOf ops i ∈ (((ops.take m).map (fun o => o.dst.getD 0)).take j) := by
        apply List.mem_of_getElem? (i := i)
        rw [List.getElem?_take, if_pos hij, List.getElem?_map, List.getElem?_take, if_pos hi, List.getElem?_eq_getElem (by omega)]
        simp [dstOf, List.getElem?_eq_getElem (show i < ops.length by omega)]
      have := (List.all_eq_true.1 this) _ hmem
      intro e
      rw [e, Nat.beq_refl] at this
      cases this
    intro i j hi hj hne
    rcases Nat.lt_or_gt_of_ne hne with h | h
    · exact key i j hi hj h
    · exact (key j i hj hi h).symm
  · intro i hi hE
    have := (List.all_eq_true.1 h6) i (by simpa using hi)
    rw [Bool.or_eq_true] at this
    rcases this with h | h
    · exact absurd (inL_iff.1 h) hE
    · obtain ⟨⟨o, j⟩, hmem, hc⟩ := List.any_eq_true.1 h
      simp only [Bool.and_eq_true] at hc
      obtain ⟨⟨⟨c1, c2⟩, c3⟩, c4⟩ := hc
      refine ⟨j, o, by simpa using c1, by simpa using c2, fun hj => ?_, List.mk_mem_zipIdx_iff_getElem?.1 hmem, by simpa using c4⟩
      rw [inL_iff.2 hj] at c3
      cases c3
  · intro e he
    have := (List.all_eq_true.1 h7) e he
    simp only [Bool.and_eq_true] at this
    obtain ⟨c1, c2⟩ := this
    refine ⟨by simpa using c1, fun o ho => ?_⟩
    rw [ho] at c2
    simp only [Bool.and_eq_true] at c2
    exact ⟨by simpa using c2.1, fun k hk => inL_iff.1 ((List.all_eq_true.1 c2.2) k hk)⟩
  · intro o ho
    rw [ho] at h8
    simp only [Bool.and_eq_true] at h8
    exact ⟨by simpa using h8.1.1, by simpa using h8.1.2, h8.2⟩
theorem tailS {ops : List Oper} {Q : Exit → Act → World → Prop} {m : Nat} (low : ∀ (j : Nat) o, ops[j]? = some o → ∀ i ∈ aftersOf o, i < j) (tail : ∀ (j : Nat) o, m ≤ j → ops[j]? = some o → ∀ i, i < j → ∃ k o', i < k ∧ k ≤ j ∧ ops[k]? = some o' ∧ i ∈ aftersOf o') : ∀ (fuel j : Nat) (L : Array Bool) (a : Act) (w : World), m ≤ j → j + fuel = ops.length → L.size = ops.length → (∀ i, i < ops.length → L.getD i true = decide (i < j)) →
    wpListIn (Fr r) n P ops.toArray Q (ops.drop j) a w → wpAnyIn (Fr r) n P .any ops.toArray Q fuel L a w := by
  intro fuel
  induction fuel with
  | zero =>
    intro j L a w hj hf hs hL h
    rw [List.drop_eq_nil_of_le (by omega)] at h
    refine ⟨?_, h⟩
    apply List.eq_nil_iff_forall_not_mem.2
    intro i hi
    have := (mem_ready.1 hi).1
    have hi' : i < L.size := by
      rcases Nat.lt_or_ge i L.size with h' | h'
      · exact h'
      · simp [Array.getD, Nat.not_lt.2 h'] at this
    rw [hL i (by omega)] at this
    simp at this
    omega
  | succ fuel ih =>
    intro j L a w hj hf hs hL h
    have hjl : j < ops.length := by omega
    have hne : Region.ready .any ops.toArray L ≠ [] := by
      refine ready_of_left (fun k o ho => low k o (by simpa using ho)) (by simpa using hs) (List.count_pos_iff.2 ?_)
      have : L.toList[j]'(by simp; omega) = false := by
        have := hL j hjl
        simpa [Array.getD, show j < L.size by omega] using this
      rw [← this]; exact List.getElem_mem _
    refine ⟨fun e => absurd e hne, fun i hi => ?_⟩
    obtain ⟨h1, o, ho, h2⟩ := mem_ready.1 hi
    have hio : ops[i]? = some o := by simpa using ho
    have hil : i < ops.length := (List.getElem?_eq_some_iff.1 hio).1
    have hij : ¬ i < j := by
      have := hL i hil
      rw [h1] at this
      simpa using this
    have : i = j := by
      rcases Nat.lt_or_ge j i with h' | h'
      · have chain : ∀ d k, i - k = d → j ≤ k → k < i → False := by
          intro d
          induction d using Nat.strongRecOn with
          | _ d ihd =>
            intro k hd hjk hki
            obtain ⟨k', o', h3, h4, h5, h6⟩ := tail i o (by omega) hio k hki
            rcases Nat.lt_or_ge k' i with h7 | h7
            · exact ihd (i - k') (by omega) k' rfl (by omega) h7
            · have e7 : k' = i := by omega
              subst e7
              rw [hio] at h5
              injection h5 with h5
              subst h5
              simp only [aftersOf, List.mem_map, List.mem_filter] at h6
              obtain ⟨e, ⟨he, hb⟩, hon⟩ := h6
              have := h2 e (by simpa using he) hb
              rw [hon] at this
              have hb' := hL k (by omega)
              have hks : k < L.size := by omega
              simp [Array.getD, hks] at this hb'
              rw [this] at hb'
              simp at hb'
              omega
        exact (chain _ j rfl (Nat.le_refl _) h').elim
      · omega
    subst this
    rw [List.drop_eq_getElem_cons hjl] at h
    have e0 : ops[i] = o := by rw [List.getElem?_eq_getElem hjl] at hio; injection hio
    rw [e0] at h
    unfold wpListIn at h
    unfold wpOpIn
    simp only [ho]
    have next : ∀ a w, wpListIn (Fr r) n P ops.toArray Q (ops.drop (i + 1)) a w → wpAnyIn (Fr r) n P .any ops.toArray Q fuel (L.setIfInBounds i true) a w := fun a w h => ih (i + 1) _ a w (by omega) (by omega) (by simpa using hs) (fun k hk => by
      by_cases hki : i = k
      · subst hki
        have : i < L.size := by omega
        simp [Array.getD, this]
      · rw [getD_set_ne true hki, hL k hk]
        simp
        omega) h
    split at h
    · rename_i hw
      rw [if_pos hw]
      exact Oper.wpIn_mono next h
    · rename_i hw
      rw [if_neg hw]
      exact ⟨h.1, next _ _ h.2⟩
/-- The late operations yield their values in the world behind the store. -/
def LatesAt (P : Program) (ops : List Oper) (l0 : Env) (V : Nat → Value) (E : List Nat) (w : World) : Prop := ∀ e ∈ E, ∀ o, ops[e]? = some o → Run1 P (depEnv ops V (aftersOf o) ++ l0) o w (V e) w
def StoreThen (P : Program) (l : Env) (o : Oper) (w : World) (K : World → Prop) : Prop := ∃ w2, Run0 P l o w w2 ∧ K w2
theorem mem_drop_listed {L : Array Bool} {i : Nat} (h : L.getD i true = false) : i < L.size := by
  rcases Nat.lt_or_ge i L.size with h' | h'
  · exact h'
  · simp [Array.getD, Nat.not_lt.2 h'] at h
theorem count_pos_of {L : Array Bool} {i : Nat} (h : L.getD i true = false) : 0 < L.toList.count false := by
  have h1 := mem_drop_listed h
  refine List.count_pos_iff.2 ?_
  have e : L.toList[i]'(by simpa using h1) = false := by simpa [Array.getD, h1] using h
  rw [← e]; exact List.getElem_mem _
theorem of_count_zero {L : Array Bool} (h : L.toList.count false = 0) (i : Nat) : L.getD i true = true := by
  cases hb : L.getD i true with
  | true => rfl
  | false => have := count_pos_of hb; omega
theorem phaseB {ops : List Oper} {Q : Exit → Act → World → Prop} {m : Nat} {E : List Nat} {l0 : Env} (ok : RegS N m E ops l0) (V : Nat → Value) {w : World} (hlate : LatesAt P ops l0 V E w) {T : Act} (hT : wpListIn (Fr r) n P ops.toArray Q (ops.drop (m + 1)) T w) : ∀ (fuel : Nat) (L : Array Bool) (a : Act), L.size = ops.length → L.toList.count false = fuel → (∀ i, m < i → i < ops.length → L.getD i true = false) → L.getD m true = true → (∀ k, k < m → k ∉ E → L.getD k true = true) → (∀ i o, ops[i]? = some o → L.getD i true = true → ∀ k ∈ aftersOf o, L.getD k true = true) → Holds N D a l0 →
    (∀ k ∈ E, L.getD k true = true → a.tmps.getD (dstOf ops k) undef = V k) → T.defers = a.defers → T.tmps.size = a.tmps.size → (∀ k ∈ E, L.getD k true = false → T.tmps.getD (dstOf ops k) undef = V k) → (∀ t, (∀ k ∈ E, L.getD k true = false → dstOf ops k ≠ t) → T.tmps.getD t undef = a.tmps.getD t undef) →
    wpAnyIn (Fr r) n P .any ops.toArray Q fuel L a w := by
  have hm := ok.hm
  have same : ∀ (L : Array Bool) (a : Act), (∀ k ∈ E, L.getD k true = true) → T.defers = a.defers → T.tmps.size = a.tmps.size → (∀ t, (∀ k ∈ E, L.getD k true = false → dstOf ops k ≠ t) → T.tmps.getD t undef = a.tmps.getD t undef) → T = a := by
    intro L a hE hTd hTs hTo
    obtain ⟨tt, td⟩ := T
    obtain ⟨at', ad⟩ := a
    simp only at hTd hTs hTo
    subst hTd
    congr 1
    apply Array.ext hTs
    intro i h1 h2
    have := hTo i (fun k hk hk' => by rw [hE k hk] at hk'; cases hk')
    simpa [Array.getD, h1, h2] using this
  intro fuel
  induction fuel with
  | zero =>
    intro L a hs hc hL hLm hLf hD H hV hTd hTs hTe hTo
    have hall := of_count_zero hc
    by_cases hml : m + 1 < ops.length
    · have := hL (m + 1) (by omega) hml
      rw [hall] at this; cases this
    · have e := same L a (fun k _ => hall k) hTd hTs hTo
      subst e
      rw [List.drop_eq_nil_of_le (by omega)] at hT
      refine ⟨?_, hT⟩
      apply List.eq_nil_iff_forall_not_mem.2
      intro i hi
      obtain ⟨h1, _⟩ := mem_ready.1 hi
      rw [hall] at h1; cases h1
  | succ fuel ih =>
    intro L a hs hc hL hLm hLf hD H hV hTd hTs hTe hTo
    by_cases hE : ∀ k ∈ E, L.getD k true = true
    · have e := same L a hE hTd hTs hTo
      subst e
      have hL' : ∀ i, i < ops.length → L.getD i true = decide (i < m + 1) := by
        intro i hi
        by_cases h' : i < m + 1
        · have : L.getD i true = true := by
            by_cases hie : i ∈ E
            · exact hE i hie
            · by_cases him : i = m
              · subst him; exact hLm
              · exact hLf i (by omega) hie
          rw [this]; simp [h']
        · rw [hL i (by omega) hi]; simp [h']
      have hcnt : (m + 1) + (fuel + 1) = ops.length := by
        have hLl : L.toList = List.replicate (m + 1) true ++ List.replicate (ops.length - (m + 1)) false := by
          apply List.ext_getElem
          · simp; omega
          · intro i h1 h2
            have h1' : i < L.size := by simpa using h1
            have := hL' i (by omega)
            simp only [Array.getD, h1', dif_pos] at this
            rw [List.getElem_append]
            simp at this ⊢
            rw [this]
        rw [hLl] at hc
        simp [List.count_append, List.count_replicate] at hc
        omega
      exact tailS ok.low ok.tail (fuel + 1) (m + 1) L T w (Nat.le_refl _) hcnt hs hL' hT
    · have hne : Region.ready .any ops.toArray L ≠ [] := ready_of_left (fun k o ho => ok.low k o (by simpa using ho)) (by simpa using hs) (by omega)
      refine ⟨fun e => absurd e hne, fun i hi => ?_⟩
      obtain ⟨h1, o, ho, h2⟩ := mem_ready.1 hi
      have hio : ops[i]? = some o := by simpa using ho
      have hil : i < ops.length := (List.getElem?_eq_some_iff.1 hio).1
      have hlisted : ∀ k ∈ aftersOf o, L.getD k true = true := by
        intro k hk
        have h4 := ok.low i o hio k hk
        simp only [aftersOf, List.mem_map, List.mem_filter] at hk
        obtain ⟨e, ⟨he, hb⟩, hon⟩ := hk
        have h3 := h2 e (by simpa using he) hb
        rw [hon] at h3
        have hks : k < L.size := by omega
        simpa [Array.getD, hks] using h3
      have hiE : i ∈ E := by
        by_cases hie : i ∈ E
        · exact hie
        · exfalso
          rcases Nat.lt_or_ge i m with h' | h'
          · have := hLf i h' hie
            rw [this] at h1; cases h1
          · rcases Nat.lt_or_ge m i with h'' | h''
            · have chain : ∀ d k, i - k = d → k < i → L.getD k true = true := by
                intro d
                induction d using Nat.strongRecOn with
                | _ d ihd =>
                  intro k hd hki
                  obtain ⟨k', o', h3, h4, h5, h6⟩ := ok.tail i o (by omega) hio k hki
                  rcases Nat.lt_or_ge k' i with h7 | h7
                  · exact hD k' o' h5 (ihd (i - k') (by omega) k' rfl h7) k h6
                  · have e7 : k' = i := by omega
                    subst e7
                    rw [hio] at h5
                    injection h5 with h5
                    subst h5
                    exact hlisted k h6
              exact hE (fun k hk => chain _ k rfl (by have := (ok.late k hk).1; omega))
            · have : i = m := by omega
              subst this
              rw [hLm] at h1; cases h1
      obtain ⟨him, hiL⟩ := ok.late i hiE
      obtain ⟨hgn, hiA⟩ := hiL o hio
      obtain ⟨hd, hdN⟩ := ok.dst i o him hio
      have hdsz : dstOf ops i < a.tmps.size := by rw [H.n]; exact hdN
      unfold wpOpIn
      simp only [ho]
      rw [if_pos (wantedNone hgn)]
      refine ⟨fun _ _ => trivial, ?_⟩
      rw [semAt_calm (ok.cal i o him hio)]
      have hev : Ev (depEnv ops V (aftersOf o) ++ l0) a.eval := by
        refine (H.join (fun t v hmem => ?_)).ev
        simp only [depEnv, List.mem_map] at hmem
        obtain ⟨k, hk, e⟩ := hmem
        injection e with e1 e2
        subst e1
        rw [← e2]
        exact hV k (hiA k hk) (hlisted k hk)
      rw [hlate i hiE o hio _ hev, Oper.uponIn_value, hd]
      have hils : i < L.size := mem_drop_listed h1
      have up : ∀ q, L.getD q true = true → (L.setIfInBounds i true).getD q true = true := fun q hq => by
        by_cases hiq : i = q
        · subst hiq; simp [Array.getD, hils]
        · rw [getD_set_ne true hiq]; exact hq
      have dn : ∀ q, (L.setIfInBounds i true).getD q true = false → L.getD q true = false ∧ q ≠ i := fun q hq => by
        by_cases hiq : i = q
        · subst hiq; simp [Array.getD, hils] at hq
        · rw [getD_set_ne true hiq] at hq; exact ⟨hq, fun e => hiq e.symm⟩
      refine ih _ _ (by simpa using hs) (by have := count_set h1; omega) (fun k hk hkl => ?_) (up m hLm) (fun k hk hke => up k (hLf k hk hke)) (fun k ok' hok hLk k' hk' => ?_) ⟨H.d, by simp [Act.put, H.n], fun t u hu => ?_⟩ (fun k hk hkL => ?_) (by simpa [Act.put] using hTd) (by simpa [Act.put] using hTs) (fun k hk hkL => hTe k hk (dn k hkL).1) (fun t ht => ?_)
      · rw [getD_set_ne true (by omega)]; exact hL k hk hkl
      · by_cases hik : i = k
        · subst hik
          rw [hio] at hok
          injection hok with hok
          subst hok
          exact up k' (hlisted k' hk')
        · rw [getD_set_ne true hik] at hLk
          exact up k' (hD k ok' hok hLk k' hk')
      · rw [put_getD hdsz, if_neg (fun e => ok.keys i him _ (look_mem l0 t u hu) e.symm)]
        exact H.h t u hu
      · by_cases hik : i = k
        · subst hik
          rw [put_getD hdsz, if_pos rfl]
        · rw [getD_set_ne true hik] at hkL
          rw [put_getD hdsz, if_neg (ok.inj i k him (ok.late k hk).1 hik)]
          exact hV k hk hkL
      · by_cases hti : dstOf ops i = t
        · subst hti
          rw [put_getD hdsz, if_pos rfl]
          exact hTe i hiE h1
        · rw [put_getD hdsz, if_neg hti]
          refine hTo t (fun k hk hkL => ?_)
          by_cases hik : i = k
          · subst hik; exact hti
          · exact ht k hk (by rw [getD_set_ne true hik]; exact hkL)
def fillE (ops : List Oper) (V : Nat → Value) : List Nat → Act → Act
  | [], a => a
  | e :: es, a => fillE ops V es (a.put (some (dstOf ops e)) (V e))
theorem fillE_spec {ops : List Oper} {V : Nat → Value} : ∀ (E : List Nat) (a : Act), (∀ e ∈ E, dstOf ops e < a.tmps.size) → (∀ e ∈ E, ∀ f ∈ E, dstOf ops e = dstOf ops f → e = f) → (fillE ops V E a).defers = a.defers ∧ (fillE ops V E a).tmps.size = a.tmps.size ∧ (∀ e ∈ E, (fillE ops V E a).tmps.getD (dstOf ops e) undef = V e) ∧ (∀ t, (∀ e ∈ E, dstOf ops e ≠ t) → (fillE ops V E a).tmps.getD t undef = a.tmps.getD t undef)
  | [], a, _, _ => ⟨rfl, rfl, (fun e he => by cases he), fun _ _ => rfl⟩
  | e :: es, a, hs, hi => by
    obtain ⟨h1, h2, h3, h4⟩ := fillE_spec es (a.put (some (dstOf ops e)) (V e)) (fun f hf => by simpa [Act.put] using hs f (List.mem_cons_of_mem _ hf)) (fun f hf g hg => hi f (List.mem_cons_of_mem _ hf) g (List.mem_cons_of_mem _ hg))
    have hes := hs e (by simp)
    refine ⟨by simpa [fillE, Act.put] using h1, by simpa [fillE, Act.put] using h2, fun f hf => ?_, fun t ht => ?_⟩
    · by_cases hfe : f ∈ es
      · exact h3 f hfe
      · rcases List.mem_cons.1 hf with rfl | h'
        · show (fillE ops V es _).tmps.getD _ undef = _
          rw [h4 _ (fun g hg hgf => hfe (by rw [← hi g (List.mem_cons_of_mem _ hg) f (by simp) hgf]; exact hg)), put_getD hes, if_pos rfl]
        · exact absurd h' hfe
    · show (fillE ops V es _).tmps.getD _ undef = _
      rw [h4 t (fun g hg => ht g (List.mem_cons_of_mem _ hg)), put_getD hes, if_neg (ht e (by simp))]
theorem wanted_iffS {ops : List Oper} {m : Nat} {l0 : Env} {E : List Nat} (ok : RegS N m E ops l0) {a : Act} (hN : a.tmps.size = N) {i : Nat} {o : Oper} (hi : i < m) (ho : ops[i]? = some o) {σ : Nat → Value} (hσ : ∀ g b, o.guard = some (g, b) → σ g = a.tmps.getD (dstOf ops g) undef) :
    Region.wanted o (yielded ops.toArray a.tmps) = true ↔ onB σ o := by
  unfold Region.wanted onB
  cases hg : o.guard with
  | none => simp
  | some gb =>
    obtain ⟨g, b⟩ := gb
    have hmem := ok.gd i o hi ho g b hg
    have hlt : g < i := ok.low i o ho g hmem
    obtain ⟨og, hog⟩ : ∃ og, ops[g]? = some og := ⟨_, List.getElem?_eq_getElem (by have := ok.hm; omega)⟩
    obtain ⟨hd, hdN⟩ := ok.dst g og (by omega) hog
    have hs := hσ g b hg
    have hlt2 : dstOf ops g < a.tmps.size := by omega
    have hy : yielded ops.toArray a.tmps g = match σ g with | .bool b => some b | _ => none := by
      have e1 : ((ops.toArray[g]?).bind (·.dst)).bind (a.tmps[·]?) = some (σ g) := by
        rw [hs]
        simp [hog, hd, Array.getD, hlt2]
      unfold yielded
      rw [e1]
      cases σ g <;> rfl
    simp only [hy]
    cases hv : σ g <;> simp
theorem w_drawSK {ops : List Oper} {rid m : Nat} (E : List Nat) {Q : Exit → Act → World → Prop} {a : Act} {w : World} {l0 : Env} (R : Nat → (Nat → Value) → Value → Nat × Nat → World → Prop) (isCall : Nat → Bool) (V : Nat → Value) (hfol : P.follows .mixedOrders = true) (H : Holds N D a l) (hsub : Sub l l0) (hB : regS N m E ops l0 = true)
    (mono : ∀ k σ v q w w', Gr w w' → R k σ v q w → R k σ v q w')
    (call : ∀ k, isCall k = true → ∀ σ σ' v q w, R k σ v q w → R k σ' v q w)
    (hRE : ∀ e ∈ E, ∀ σ v q w, R e σ v q w ↔ v = V e)
    (prog : ∀ (j : Nat) o, j < m → ops[j]? = some o → ∀ σ (ι : Nat → Nat × Nat) w1, Gr w.drew w1 → (∀ k ∈ aftersOf o, Fact ops R k σ (ι k) w1) → onB σ o → if isCall j then CallOK P (depEnv ops σ (aftersOf o) ++ l0) o w1 (R j σ) else OpOK P (depEnv ops σ (aftersOf o) ++ l0) o w1 (R j σ))
    (fin : ∀ o, ops[m]? = some o → ∀ σ (ι : Nat → Nat × Nat) w1, Gr w.drew w1 → (∀ k, k < m → Fact ops R k σ (ι k) w1) → ApartM m ι w.heap.size w1.heap.size → StoreThen P (depEnv ops σ (aftersOf o) ++ l0) o w1 (fun w2 => LatesAt P ops l0 V E w2 ∧ ∀ a', Holds N D a' (depEnv ops σ (List.range m) ++ l0) → wpListIn (Fr r) n P ops.toArray Q (ops.drop (m + 1)) a' w2)) :
    (Code.region rid ops.toArray true).wpIn (Fr r) n P Q a w := by
  have ok := regS_ok hB
  have hm := ok.hm
  have key : ∀ (fuel : Nat) (L : Array Bool) (a : Act) (w1 : World) (ι : Nat → Nat × Nat), L.size = ops.length → L.toList.count false = fuel → (∀ i, m ≤ i → i < ops.length → L.getD i true = false) → (∀ i o, ops[i]? = some o → L.getD i true = true → ∀ k ∈ aftersOf o, L.getD k true = true) → Gr w.drew w1 → Holds N D a l0 → Apart (fun k => k < m ∧ L.getD k true = true) ι w.heap.size w1.heap.size →
      (∀ σ : Nat → Value, (∀ k, k < m → L.getD k true = true → σ k = a.tmps.getD (dstOf ops k) undef) → ∀ k, k < m → L.getD k true = true → Fact ops R k σ (ι k) w1) → wpAnyIn (Fr r) n P .any ops.toArray Q fuel L a w1 := by
    intro fuel
    induction fuel with
    | zero =>
      intro L a w1 ι hs hc hT hD hg H0 hAp inv
      have h1 := hT m (Nat.le_refl _) hm
      rw [of_count_zero hc] at h1; cases h1
    | succ fuel ih =>
      intro L a w1 ι hs hc hT hD hg H0 hAp inv
      have hne : Region.ready .any ops.toArray L ≠ [] := ready_of_left (fun k o ho => ok.low k o (by simpa using ho)) (by simpa using hs) (by omega)
      refine ⟨fun e => absurd e hne, fun i hi => ?_⟩
      obtain ⟨h1, o, ho, h2⟩ := mem_ready.1 hi
      have hio : ops[i]? = some o := by simpa using ho
      have hil : i < ops.length := (List.getElem?_eq_some_iff.1 hio).1
      have hlisted : ∀ k ∈ aftersOf o, L.getD k true = true ∧ k < i := by
        intro k hk
        have h4 := ok.low i o hio k hk
        simp only [aftersOf, List.mem_map, List.mem_filter] at hk
        obtain ⟨e, ⟨he, hb⟩, hon⟩ := hk
        have h3 := h2 e (by simpa using he) hb
        rw [hon] at h3
        have hks : k < L.size := by omega
        refine ⟨?_, h4⟩
        simpa [Array.getD, hks] using h3
      have fit0 : ∀ k, k < m → L.getD k true = true → (fun k => a.tmps.getD (dstOf ops k) undef) k = a.tmps.getD (dstOf ops k) undef := fun _ _ _ => rfl
      have him0 : i ≤ m := by
        rcases Nat.lt_or_ge m i with h' | h'
        · exfalso
          have chain : ∀ d k, i - k = d → k < i → L.getD k true = true := by
            intro d
            induction d using Nat.strongRecOn with
            | _ d ihd =>
              intro k hd hki
              obtain ⟨k', o', h3, h4, h5, h6⟩ := ok.tail i o (by omega) hio k hki
              rcases Nat.lt_or_ge k' i with h7 | h7
              · exact hD k' o' h5 (ihd (i - k') (by omega) k' rfl h7) k h6
              · have e7 : k' = i := by omega
                subst e7
                rw [hio] at h5
                injection h5 with h5
                subst h5
                exact (hlisted k h6).1
          have := chain _ m rfl h'
          rw [hT m (Nat.le_refl _) hm] at this; cases this
        · exact h'
      by_cases him' : i = m
      · -- the store
        subst him'
        obtain ⟨hd, hgn, hcl⟩ := ok.st o hio
        have hfr : ∀ k, k < i → k ∉ E → L.getD k true = true := by
          have chain : ∀ d k, i - k = d → k < i → k ∉ E → L.getD k true = true := by
            intro d
            induction d using Nat.strongRecOn with
            | _ d ihd =>
              intro k hd hki hkE
              obtain ⟨k', o', h3, h4, h5, h6, h7⟩ := ok.chain k hki hkE
              rcases Nat.lt_or_ge k' i with h8 | h8
              · exact hD k' o' h6 (ihd (i - k') (by omega) k' rfl h8 h5) k h7
              · have e7 : k' = i := by omega
                subst e7
                rw [hio] at h6
                injection h6 with h6
                subst h6
                exact (hlisted k h7).1
          exact fun k hk hkE => chain _ k rfl hk hkE
        have hVa : ∀ k ∈ E, L.getD k true = true → a.tmps.getD (dstOf ops k) undef = V k := by
          intro k hk hkL
          obtain ⟨hkm, hkl⟩ := ok.late k hk
          have hko : ops[k]? = some (ops[k]'(by omega)) := List.getElem?_eq_getElem _
          have := (inv _ fit0 k hkm hkL _ hko).1 (by unfold onB; rw [(hkl _ hko).1]; trivial)
          exact (hRE k hk _ _ _ _).1 this
        let σ : Nat → Value := fun k => if L.getD k true = true then a.tmps.getD (dstOf ops k) undef else V k
        have hσfit : ∀ k, k < i → L.getD k true = true → σ k = a.tmps.getD (dstOf ops k) undef := fun k _ hL => if_pos hL
        let ι' : Nat → Nat × Nat := fun k => if L.getD k true = true then ι k else (w1.heap.size, w1.heap.size)
        have hEo : ∀ k, k < i → ¬ L.getD k true = true → k ∈ E := fun k hk hL => by
          by_cases hkE : k ∈ E
          · exact hkE
          · exact absurd (hfr k hk hkE) hL
        obtain ⟨w2, hrun, hlat, htail⟩ := fin o hio σ ι' w1 hg (fun k hk => by
          by_cases hL : L.getD k true = true
          · have := inv σ hσfit k hk hL
            simp only [ι', if_pos hL]
            exact this
          · have hkE := hEo k hk hL
            intro o' ho'
            have hgn' := ((ok.late k hkE).2 o' ho').1
            refine ⟨fun _ => ?_, fun hno => absurd (by unfold onB; rw [hgn']; trivial) hno⟩
            refine (hRE k hkE _ _ _ _).2 ?_
            simp only [σ, if_neg hL]) (by
          refine ⟨fun k hk => ?_, fun k j hk hj hne => ?_⟩
          · by_cases hL : L.getD k true = true
            · simp only [ι', if_pos hL]; exact hAp.1 k ⟨hk, hL⟩
            · simp only [ι', if_neg hL]; exact ⟨hg.size, Nat.le_refl _, Nat.le_refl _⟩
          · by_cases hL : L.getD k true = true
            · by_cases hL' : L.getD j true = true
              · simp only [ι', if_pos hL, if_pos hL']; exact hAp.2 k j ⟨hk, hL⟩ ⟨hj, hL'⟩ hne
              · simp only [ι', if_pos hL, if_neg hL']; exact .inl (hAp.1 k ⟨hk, hL⟩).2.2
            · by_cases hL' : L.getD j true = true
              · simp only [ι', if_neg hL, if_pos hL']; exact .inr (hAp.1 j ⟨hj, hL'⟩).2.2
              · simp only [ι', if_neg hL, if_neg hL']; exact .inl (Nat.le_refl _))
        have hsz : ∀ e ∈ E, dstOf ops e < a.tmps.size := fun e he => by
          rw [H0.n]
          have hem := (ok.late e he).1
          exact (ok.dst e _ hem (List.getElem?_eq_getElem (by omega))).2
        obtain ⟨f1, f2, f3, f4⟩ := fillE_spec (V := V) E a hsz (fun e he f hf hef => by
          rcases Nat.decEq e f with h | h
          · exact absurd hef (ok.inj e f (ok.late e he).1 (ok.late f hf).1 h)
          · exact h)
        have hTl := htail (fillE ops V E a) (by
          have H1 : Holds N D (fillE ops V E a) l0 := ⟨by rw [f1]; exact H0.d, by rw [f2]; exact H0.n, fun t u hu => by
            rw [f4 t (fun e he hte => ok.keys e (ok.late e he).1 _ (look_mem l0 t u hu) hte.symm)]
            exact H0.h t u hu⟩
          refine H1.join (fun t v hmem => ?_)
          simp only [depEnv, List.mem_map] at hmem
          obtain ⟨k, hk, e⟩ := hmem
          injection e with e1 e2
          subst e1
          rw [← e2]
          have hk : k < i := by simpa using hk
          by_cases hkE : k ∈ E
          · rw [f3 k hkE]
            by_cases hL : L.getD k true = true
            · simp only [σ, if_pos hL]; exact (hVa k hkE hL).symm
            · simp only [σ, if_neg hL]
          · rw [f4 _ (fun e he hte => by
              rcases Nat.decEq e k with h | h
              · exact ok.inj e k (ok.late e he).1 hk h hte
              · exact hkE (h ▸ he))]
            simp only [σ, if_pos (hfr k hk hkE)])
        have hev : Ev (depEnv ops σ (aftersOf o) ++ l0) a.eval := by
          refine (H0.join (fun t v hmem => ?_)).ev
          simp only [depEnv, List.mem_map] at hmem
          obtain ⟨k, hk, e⟩ := hmem
          injection e with e1 e2
          subst e1
          rw [← e2]
          exact (hσfit k (hlisted k hk).2 (hlisted k hk).1).symm
        unfold wpOpIn
        simp only [ho]
        rw [if_pos (wantedNone hgn)]
        refine ⟨fun _ _ => trivial, ?_⟩
        rw [semAt_calm hcl, hrun _ hev, Oper.uponIn_skip, hd]
        have hils : i < L.size := mem_drop_listed h1
        have up : ∀ q, L.getD q true = true → (L.setIfInBounds i true).getD q true = true := fun q hq => by
          by_cases hiq : i = q
          · subst hiq; simp [Array.getD, hils]
          · rw [getD_set_ne true hiq]; exact hq
        have dn : ∀ q, q ≠ i → (L.setIfInBounds i true).getD q true = L.getD q true := fun q hq => getD_set_ne true (fun e => hq e.symm)
        refine phaseB ok V hlat hTl fuel (L.setIfInBounds i true) a (by simpa using hs) (by have := count_set h1; omega) (fun k hk hkl => ?_) (by simp [Array.getD, hils]) (fun k hk hke => up k (hfr k hk hke)) (fun k ok' hok hLk k' hk' => ?_) H0 (fun k hk hkL => ?_) f1 f2 (fun k hk _ => f3 k hk) (fun t ht => ?_)
        · rw [dn k (by omega)]; exact hT k (by omega) hkl
        · by_cases hik : i = k
          · subst hik
            rw [hio] at hok
            injection hok with hok
            subst hok
            exact up k' (hlisted k' hk').1
          · rw [dn k (fun e => hik e.symm)] at hLk
            exact up k' (hD k ok' hok hLk k' hk')
        · rw [dn k (by have := (ok.late k hk).1; omega)] at hkL
          exact hVa k hk hkL
        · by_cases hx : ∃ k ∈ E, dstOf ops k = t
          · obtain ⟨k, hk, rfl⟩ := hx
            rw [f3 k hk]
            by_cases hL : L.getD k true = true
            · exact (hVa k hk hL).symm
            · exact absurd rfl (ht k hk (by rw [dn k (by have := (ok.late k hk).1; omega)]; simpa using hL))
          · exact f4 t (fun e he hte => hx ⟨e, he, hte⟩)
      · have him : i < m := by omega
        obtain ⟨hd, hdN⟩ := ok.dst i o him hio
        have hdsz : dstOf ops i < a.tmps.size := by rw [H0.n]; exact hdN
        have hgl : ∀ g b, o.guard = some (g, b) → g ∈ aftersOf o := fun g b hgb => ok.gd i o him hio g b hgb
        -- what any valuation that fits the frame knows
        have fitsEv : ∀ σ : Nat → Value, (∀ k, k < m → L.getD k true = true → σ k = a.tmps.getD (dstOf ops k) undef) → Ev (depEnv ops σ (aftersOf o) ++ l0) a.eval := by
          intro σ hσ
          refine (H0.join (fun t v hmem => ?_)).ev
          simp only [depEnv, List.mem_map] at hmem
          obtain ⟨k, hk, e⟩ := hmem
          injection e with e1 e2
          subst e1
          rw [← e2, hσ k (by have := hlisted k hk; omega) (hlisted k hk).1]
        have fitsOn : ∀ σ : Nat → Value, (∀ k, k < m → L.getD k true = true → σ k = a.tmps.getD (dstOf ops k) undef) → (Region.wanted o (yielded ops.toArray a.tmps) = true ↔ onB σ o) := fun σ hσ =>
          wanted_iffS ok H0.n him hio (fun g b hgb => hσ g (by have := hlisted g (hgl g b hgb); omega) (hlisted g (hgl g b hgb)).1)
        have fitsP : ∀ σ : Nat → Value, (∀ k, k < m → L.getD k true = true → σ k = a.tmps.getD (dstOf ops k) undef) → onB σ o → if isCall i then CallOK P (depEnv ops σ (aftersOf o) ++ l0) o w1 (R i σ) else OpOK P (depEnv ops σ (aftersOf o) ++ l0) o w1 (R i σ) := fun σ hσ hon =>
          prog i o him hio σ ι w1 hg (fun k hk => inv σ hσ k (by have := hlisted k hk; omega) (hlisted k hk).1) hon
        -- a later valuation fits the frame before
        have fitsOld : ∀ v (σ : Nat → Value), (∀ k, k < m → (L.setIfInBounds i true).getD k true = true → σ k = (a.put (some (dstOf ops i)) v).tmps.getD (dstOf ops k) undef) → (∀ k, k < m → L.getD k true = true → σ k = a.tmps.getD (dstOf ops k) undef) ∧ σ i = v := by
          intro v σ hσ
          constructor
          · intro k hk hLk
            have hik : i ≠ k := fun e => by subst e; rw [h1] at hLk; cases hLk
            have h5 := hσ k hk (by rw [getD_set_ne true hik]; exact hLk)
            rw [put_getD hdsz, if_neg (ok.inj i k him hk hik)] at h5
            exact h5
          · have hils : i < L.size := by omega
            have h5 := hσ i him (by simp [Array.getD, hils])
            rw [put_getD hdsz, if_pos rfl] at h5
            exact h5
        have next : ∀ v w2, Gr w1 w2 → (∀ σ : Nat → Value, (∀ k, k < m → L.getD k true = true → σ k = a.tmps.getD (dstOf ops k) undef) → σ i = v → Fact ops R i σ (w1.heap.size, w2.heap.size) w2) → wpAnyIn (Fr r) n P .any ops.toArray Q fuel (L.setIfInBounds i true) (a.put (some (dstOf ops i)) v) w2 := by
          intro v w2 hg2 hF
          refine ih _ _ w2 (fun k => if k = i then (w1.heap.size, w2.heap.size) else ι k) (by simpa using hs) (by have := count_set h1; omega) (fun k hk hkl => ?_) (fun k ok' hok hLk k' hk' => ?_) (hg.trans hg2) ⟨H0.d, by simp [Act.put, H0.n], fun t u hu => ?_⟩ ⟨fun k ⟨hk, hLk⟩ => ?_, fun k j ⟨hk, hLk⟩ ⟨hj, hLj⟩ hne => ?_⟩ ?_
          · rw [getD_set_ne true (by omega)]; exact hT k hk hkl
          · have hup : ∀ q, L.getD q true = true → (L.setIfInBounds i true).getD q true = true := fun q hq => by
              by_cases hiq : i = q
              · subst hiq
                have : i < L.size := by omega
                simp [Array.getD, this]
              · rw [getD_set_ne true hiq]; exact hq
            by_cases hik : i = k
            · subst hik
              rw [hio] at hok
              injection hok with hok
              subst hok
              exact hup k' (hlisted k' hk').1
            · rw [getD_set_ne true hik] at hLk
              exact hup k' (hD k ok' hok hLk k' hk')
          · rw [put_getD hdsz, if_neg (fun e => ok.keys i him _ (look_mem l0 t u hu) e.symm)]
            exact H0.h t u hu
          · dsimp only
            by_cases hik : k = i
            · rw [if_pos hik]
              exact ⟨hg.size, hg2.size, Nat.le_refl _⟩
            · rw [if_neg hik]
              rw [getD_set_ne true (fun e => hik e.symm)] at hLk
              obtain ⟨b1, b2, b3⟩ := hAp.1 k ⟨hk, hLk⟩
              exact ⟨b1, b2, Nat.le_trans b3 hg2.size⟩
          · dsimp only
            by_cases hik : k = i
            · have hij : ¬ j = i := fun e => hne (hik.trans e.symm)
              rw [if_pos hik, if_neg hij]
              rw [getD_set_ne true (fun e => hij e.symm)] at hLj
              exact .inr (hAp.1 j ⟨hj, hLj⟩).2.2
            · rw [getD_set_ne true (fun e => hik e.symm)] at hLk
              rw [if_neg hik]
              by_cases hij : j = i
              · rw [if_pos hij]
                exact .inl (hAp.1 k ⟨hk, hLk⟩).2.2
              · rw [if_neg hij]
                rw [getD_set_ne true (fun e => hij e.symm)] at hLj
                exact hAp.2 k j ⟨hk, hLk⟩ ⟨hj, hLj⟩ hne
          · intro σ hσ k hk hLk
            obtain ⟨hold, hi'⟩ := fitsOld v σ hσ
            by_cases hik : i = k
            · subst hik; rw [if_pos rfl]; exact hF σ hold hi'
            · rw [getD_set_ne true hik] at hLk
              rw [if_neg (fun e => hik e.symm)]
              exact (inv σ hold k hk hLk).mono mono hg2
        unfold wpOpIn
        simp only [ho]
        by_cases hw : Region.wanted o (yielded ops.toArray a.tmps) = true
        · rw [if_pos hw]
          refine ⟨fun _ _ => trivial, ?_⟩
          rw [semAt_calm (ok.cal i o him hio)]
          have h3 := fitsP _ fit0 ((fitsOn _ fit0).1 hw)
          by_cases hcall : isCall i = true
          · rw [if_pos hcall] at h3
            obtain ⟨f, vs, hE, hRet⟩ := h3
            rw [hE _ _ (fitsEv _ fit0), Oper.uponIn_enter]
            refine ⟨(fun hd => (by cases hd)), CallsIn.Fr (Calls.mono hRet ?_) r _⟩
            rintro e w2 ⟨v, rfl, hg2, hR⟩
            show wpAnyIn (Fr r) n P .any ops.toArray Q fuel (L.setIfInBounds i true) (a.put o.dst v) w2
            rw [hd]
            refine next v w2 hg2 (fun σ hσ hσi o' ho' => ?_)
            rw [hio] at ho'
            injection ho' with ho'
            subst ho'
            exact ⟨fun _ => by rw [hσi]; exact call i hcall _ _ _ _ _ hR, fun hno => absurd ((fitsOn σ hσ).1 hw) hno⟩
          · rw [if_neg hcall] at h3
            obtain ⟨v, w2, hrun, hg2, hR⟩ := h3
            rw [hrun _ (fitsEv _ fit0), Oper.uponIn_value, hd]
            refine next v w2 hg2 (fun σ hσ hσi o' ho' => ?_)
            rw [hio] at ho'
            injection ho' with ho'
            subst ho'
            refine ⟨fun hon => ?_, fun hno => absurd ((fitsOn σ hσ).1 hw) hno⟩
            have h6 := fitsP σ hσ hon
            rw [if_neg hcall] at h6
            obtain ⟨v', w', hrun', _, hR'⟩ := h6
            have e1 := hrun' _ (fitsEv σ hσ)
            rw [hrun _ (fitsEv _ fit0)] at e1
            injection e1 with e1 e2
            injection e1 with e1
            subst e1 e2
            rw [hσi]; exact hR'
        · rw [if_neg hw]
          refine ⟨fun _ _ => trivial, ?_⟩
          rw [hd]
          refine next undef w1 (Gr.refl _) (fun σ hσ hσi o' ho' => ?_)
          rw [hio] at ho'
          injection ho' with ho'
          subst ho'
          exact ⟨fun hon => absurd ((fitsOn σ hσ).2 hon) hw, fun _ => hσi⟩
  refine wpIn_region_any hfol (key _ _ a _ (fun _ => (0, 0)) (by simp) (by simp [List.count_replicate]) (fun i hi hil => by simp [Array.getD, hil]) (fun i o ho hL => absurd hL (by have := (List.getElem?_eq_some_iff.1 ho).1; simp [Array.getD, this])) (Gr.refl _) (H.sub hsub) ⟨fun k ⟨hk, hL⟩ => absurd hL (by have := ok.hm; simp [Array.getD]; omega), fun k j ⟨hk, hL⟩ => absurd hL (by have := ok.hm; simp [Array.getD]; omega)⟩ (fun σ _ k hk hL => ?_))
  simp [Array.getD] at hL
  omega
/-- A region that draws its order, with such a store, shown operation by operation. -/
theorem w_drawS {ops : List Oper} {rid m : Nat} (E : List Nat) {Q : Exit → Act → World → Prop} {a : Act} {w : World} {l0 : Env} {os : Oper} (V : Nat → Value) (hfol : P.follows .mixedOrders = true) (H : Holds N D a l) (hsub : Sub l l0) (hB : regS N m E ops l0 = true) (hos : ops[m]? = some os)
    (h : ProgsE P ops l0 w (fun RF => (∀ e ∈ E, ∀ σ v q w, RF e σ v q w ↔ v = V e) ∧ ∀ σ (ι : Nat → Nat × Nat) w1, Gr w.drew w1 → (∀ k, k < m → Fact ops RF k σ (ι k) w1) → ApartM m ι w.heap.size w1.heap.size → StoreThen P (depEnv ops σ (aftersOf os) ++ l0) os w1 (fun w2 => LatesAt P ops l0 V E w2 ∧ ∀ a', Holds N D a' (depEnv ops σ (List.range m) ++ l0) → wpListIn (Fr r) n P ops.toArray Q (ops.drop (m + 1)) a' w2)) ops 0 m (fun _ _ _ _ _ => True) (fun _ => false)) :
    (Code.region rid ops.toArray true).wpIn (Fr r) n P Q a w := by
  have ok := regS_ok hB
  have hlow : ∀ (j : Nat) o, ops[j]? = some o → ∀ k ∈ aftersOf o, k < j := ok.low
  obtain ⟨RF, CF, k1, ⟨k2E, k2⟩, k3, k4⟩ := progsE_get hlow m ops 0 _ _ (by simp) h
  simp only [Nat.zero_add, Nat.zero_le, true_implies] at k1 k3 k4
  refine w_drawSK E RF CF V hfol H hsub hB ?_ ?_ k2E ?_ (fun o ho => by rw [hos] at ho; injection ho with ho; subst ho; exact k2)
  · intro k σ v q w w' hg h
    rcases Nat.lt_or_ge k m with hk | hk
    · exact (k4 k hk).1 σ v q w w' hg h
    · rw [(k1 k (.inr hk)).1]; trivial
  · intro k hk σ σ' v q w h
    rcases Nat.lt_or_ge k m with hkm | hkm
    · exact (k4 k hkm).2 hk σ σ' v q w h
    · rw [(k1 k (.inr hkm)).1]; trivial
  · intro j o hj ho σ ι w1 hg hd hon
    have := k3 j o hj ho σ ι w1 hg hd hon
    cases hc : CF j with
    | true => rw [hc] at this; rw [if_pos rfl]; exact this
    | false => rw [hc] at this; rw [if_neg (by simp)]; exact this
variable {I J : Im} {w0 w : World} {T : TypeId} {d : Option Nat} {ty : TypeId} {pos : String} {af : Array Edge}
theorem t_store {rr : Env} {x y : Operand} {v : Value} {b o : Nat} {cs : List Value} {e : TypeId} {K : World → Prop} (hs : Sub l rr) (hz : Sz P T 1) (h1 : v.oneCell' = true) (hx : lk rr x = some (.pointer (some ⟨b, o, none⟩))) (hy : lk rr y = some v) (hN : New I w0 J w) (hb : Box J w b cs e) (ho : o < cs.length) (hge : w0.heap.size ≤ b)
    (k : ∀ w', New I w0 J w' → Box J w' b (cs.set o v) e → w' = setB w b (cs.set o v) e → K w') :
    StoreThen P l ⟨none, .store T x y, ty, pos, af, none⟩ w K :=
  ⟨_, Run0.sub hs (r_store hz h1 hx hy hb.blk ho), k _ (hN.setBox hb hge) hb.set rfl⟩
theorem t_storeA {rr : Env} {x y : Operand} {vs : List Value} {b o : Nat} {cs : List Value} {e : TypeId} {K : World → Prop} (hs : Sub l rr) (hz : Sz P T vs.length) (hn : vs ≠ []) (h1 : ∀ v ∈ vs, v.oneCell' = true) (hx : lk rr x = some (.pointer (some ⟨b, o, none⟩))) (hy : lk rr y = some (.agg vs.toArray)) (hN : New I w0 J w) (hb : Box J w b cs e) (ho : o + vs.length ≤ cs.length) (hge : w0.heap.size ≤ b)
    (k : ∀ w', New I w0 J w' → Box J w' b (spliceL cs o vs) e → w' = setB w b (spliceL cs o vs) e → K w') :
    StoreThen P l ⟨none, .store T x y, ty, pos, af, none⟩ w K :=
  ⟨_, Run0.sub hs (r_storeA hz hn h1 hx hy hb.blk ho), k _ (hN.setBox hb hge) hb.set rfl⟩
end
/-- A value together with memory that holds what it leads to. -/
theorem monoSat {J : Im} {Φ : (Nat → Value) → Im → Value → Prop} : MonoR (fun σ u q w' => ∃ K, Im.le J K ∧ Sat K w' ∧ Φ σ K u) := fun σ v q w w' hg ⟨K, h1, h2, h3⟩ => ⟨K, h1, h2.gr hg, h3⟩
theorem OpOK.ofCond {P : Program} {l : Env} {o : Oper} {w : World} {R : Value → Nat × Nat → World → Prop} {A : Prop} (h : OpOK P l o w R) : cond false A (OpOK P l o w R) := h
theorem OpOK.sat {P : Program} {l : Env} {o : Oper} {w : World} {J K : Im} {v : Value} {Φ : Im → Value → Prop} (h : Run1 P l o w v w) (hle : Im.le J K) (hS : Sat K w) (hf : Φ K v) : OpOK P l o w (fun u _ w' => ∃ K, Im.le J K ∧ Sat K w' ∧ Φ K u) := ⟨v, w, h, Gr.refl _, K, hle, hS, hf⟩
end Go.Proofs.Ytjjpaghloaggeaa
