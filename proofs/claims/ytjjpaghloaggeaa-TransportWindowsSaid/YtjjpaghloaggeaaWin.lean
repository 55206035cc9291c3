/- Windows: the messages, what the ends become; slices of an array; no program. -/
import Derived.Test.YtjjpaghloaggeaaTrM
import Derived.Test.YtjjpaghloaggeaaElem
set_option linter.unusedVariables false
set_option linter.unusedSimpArgs false
namespace Go.Proofs.Ytjjpaghloaggeaa
open Go.RowKit
section
variable {P : Program} {l : Env} {w : World} {t : TypeId} {x : Operand} {d : Option Nat} {ty : TypeId} {pos : String} {af : Array Edge} {g : Option (Nat × Bool)} {q : IntKind} {m : Int}
theorem r_uptoA {b o n hi : Nat} {xh : Operand} {e : TypeId} {sz : Nat} (hT : P.underlying t = some (.array n e)) (hs : Sz P e sz) (hx : lk l x = some (.pointer (some ⟨b, o, none⟩))) (hh : lk l xh = some (.int q m)) (hm : m = (hi : Int)) (h2 : hi ≤ n) :
    Run1 P l ⟨d, .slice t x none (some xh) none, ty, pos, af, g⟩ w (.slice (some ⟨b, o, none⟩) hi n) w := by
  intro ev h
  subst hm
  have sb : (Instr.sliceBound (.int q (hi : Int)) n .sliceAlen).run P w = .ok hi w := by
    have : (0 : Int) ≤ (hi : Int) ∧ (hi : Int) ≤ (n : Int) := by omega
    simp only [Instr.sliceBound, asIntOf, Sem.run_bind, Sem.run_pure, Result.andThen_ok]
    rw [if_pos this]
    simp only [Sem.run_pure, Int.toNat_natCast]
  have key : (Instr.sliceBounds false n n none (some (.int q (hi : Int))) none).run P w = .ok (0, hi, n) w := by
    simp only [Instr.sliceBounds, Sem.run_bind, Sem.run_pure, Result.andThen_ok, Bool.false_eq_true, if_false, sb]
  simp only [execOp, h x _ hx, Option.map_none, Option.map_some, h xh _ hh, Instr.sliceAt, Sem.run_bind, run_underlying hT, Result.andThen_ok, Instr.sureAddr, key, hs w, Sem.run_pure, Nat.zero_mul, Nat.sub_zero]
  simp [Addr.add]
end
def wMsg (b : List Int) (n : Int) (i : Nat) : List Int := b.take ((i + (n / 8).toNat) % 5)
def wAll (b : List Int) (n : Int) (k : Nat) : List (List Int) := (List.range k).map (wMsg b n)
theorem wAll_succ (b : List Int) (n : Int) (k : Nat) : wAll b n (k + 1) = wAll b n k ++ [wMsg b n k] := by simp [wAll, List.range_succ]
theorem wAll_len (b : List Int) (n : Int) (k : Nat) : (wAll b n k).length = k := by simp [wAll]
theorem wMsg_len (b : List Int) (n : Int) (i : Nat) : (wMsg b n i).length ≤ 4 := by simp [wMsg]; omega
theorem wAll_get {b : List Int} {n : Int} {k i : Nat} (h : i < (wAll b n k).length) : (wAll b n k)[i] = wMsg b n i := by simp [wAll]
theorem wAll_take {b : List Int} {n : Int} {k i : Nat} (h : i ≤ k) : (wAll b n k).take i = wAll b n i := by
  simp [wAll, ← List.map_take, List.take_range, Nat.min_eq_left h]
def wX (key : Int) (b : List Int) (n : Int) (k : Nat) : Lk := ⟨key, wAll b n k, 0, [], 0⟩
def wY (key : Int) (b : List Int) (n : Int) (k : Nat) : Lk := ⟨key1 key, [], 0, wAll b n k, k⟩
theorem wX_v {key : Int} {b : List Int} {n : Int} {k : Nat} (hk : k ≤ 32) : LkV (wX key b n k) := by
  refine ⟨by simp [wX, wAll_len]; omega, by simp [wX], by simp [wX], by simp [wX, wAll_len]; omega, by simp [wX], by simp [wX], fun d hd => ?_, by simp [wX]⟩
  simp only [wX, wAll, List.mem_map] at hd
  obtain ⟨i, _, rfl⟩ := hd
  have := wMsg_len b n i
  omega
theorem wY_v {key : Int} {b : List Int} {n : Int} {k : Nat} (hk : k ≤ 32) : LkV (wY key b n k) := by
  refine ⟨by simp [wY], by simp [wY, wAll_len]; omega, by simp [wY], by simp [wY], by simp [wY, wAll_len], by simp [wY]; omega, by simp [wY], fun d hd => ?_⟩
  simp only [wY, wAll, List.mem_map] at hd
  obtain ⟨i, _, rfl⟩ := hd
  have := wMsg_len b n i
  omega
theorem wX_send {key : Int} {b : List Int} {n : Int} {k : Nat} (hk : k < 32) : lsend (wX key b n k) (wMsg b n k) = wX key b n (k + 1) ∧ lsendE (wX key b n k) (wMsg b n k) = 0 := by
  have h : ¬ sendE (wX key b n k) (wMsg b n k) := by
    have := wMsg_len b n k
    unfold sendE
    simp only [wX, wAll_len]
    omega
  refine ⟨?_, if_neg h⟩
  unfold lsend
  rw [if_neg h]
  simp only [wX, wAll_succ]
noncomputable def wP (key : Int) (b : List Int) (n : Int) (m i : Nat) : Pk := lsigned (wX key b n m) (i : Int) (wMsg b n i)
theorem wX_pack {key : Int} {b : List Int} {n : Int} {m i : Nat} (hi : i < m) : lpacket (wX key b n m) (i : Int) = wP key b n m i ∧ lpacketE (wX key b n m) (i : Int) = 0 := by
  have h : ¬ packE (wX key b n m) (i : Int) := by
    unfold packE
    simp only [wX, wAll_len]
    omega
  refine ⟨?_, if_neg h⟩
  unfold lpacket
  rw [if_neg h]
  have e : (wX key b n m).out.getD (i : Int).toNat [] = wMsg b n i := by
    have hl : i < (wAll b n m).length := by rw [wAll_len]; exact hi
    show (wAll b n m).getD i [] = _
    rw [List.getD_eq_getElem?_getD, List.getElem?_eq_getElem hl, wAll_get]
    rfl
  rw [e]
  show lsigned (wX key b n m) (0 + (i : Int)) _ = _
  rw [Int.zero_add]
  rfl
theorem signed_tag (l : Lk) (s : Int) (d : List Int) : (lsigned l s d).chk = ptag (key1 l.key) (lsigned l s d) := by
  unfold lsigned ptag
  have e : nums ⟨s, l.rcv, d, 0⟩ = nums ⟨s, l.rcv, d, dtag (key1 l.key) (nums ⟨s, l.rcv, d, 0⟩)⟩ := by unfold nums; rfl
  exact congrArg (dtag (key1 l.key)) e
theorem wP_acc {key : Int} {b : List Int} {n : Int} {m i k : Nat} : lacc (wY key b n k) (wP key b n m i) := by
  have := wMsg_len b n i
  refine ⟨?_, signed_tag (wX key b n m) i (wMsg b n i)⟩
  have hs : (wP key b n m i).seq = i := rfl
  have ha : (wP key b n m i).ack = 0 := rfl
  have hd : (wP key b n m i).data = wMsg b n i := rfl
  have hb : (wY key b n k).base = 0 := rfl
  have ho : (wY key b n k).out = [] := rfl
  rw [hs, ha, hd, hb, ho]
  simp
  omega
/-- The next packet is received. -/
theorem wY_next {key : Int} {b : List Int} {n : Int} {m i : Nat} (hi : i < 32) : lrec (wY key b n i) (wP key b n m i) = wY key b n (i + 1) ∧ lrecE (wY key b n i) (wP key b n m i) = 0 := by
  refine ⟨?_, if_pos wP_acc⟩
  unfold lrec
  rw [if_pos wP_acc]
  have e1 : lrec1 (wY key b n i) (wP key b n m i) = wY key b n i := if_neg (by simp [wP, lsigned, wX, wY])
  rw [e1]
  unfold lrec2
  rw [if_pos (by simp [wP, lsigned, wX, wY, wAll_len]; omega)]
  simp only [wY, wAll_succ, wP, lsigned]
  simp
/-- A later packet is not. -/
theorem wY_other {key : Int} {b : List Int} {n : Int} {m i : Nat} (hi : 0 < i) : lrec (wY key b n 0) (wP key b n m i) = wY key b n 0 ∧ lrecE (wY key b n 0) (wP key b n m i) = 0 := by
  refine ⟨?_, if_pos wP_acc⟩
  unfold lrec
  rw [if_pos wP_acc]
  have e1 : lrec1 (wY key b n 0) (wP key b n m i) = wY key b n 0 := if_neg (by simp [wP, lsigned, wX, wY])
  rw [e1]
  unfold lrec2
  rw [if_neg (by simp [wP, lsigned, wX, wY]; omega)]
/-- The other end, that gets the packets in the opposite order. -/
def wZ (key : Int) (b : List Int) (n : Int) (m i : Nat) : Lk := if i < m then wY key b n 0 else wY key b n 1
theorem wZ_v {key : Int} {b : List Int} {n : Int} {m i : Nat} : LkV (wZ key b n m i) := by
  unfold wZ
  split
  · exact wY_v (by omega)
  · exact wY_v (by omega)
theorem wZ_step {key : Int} {b : List Int} {n : Int} {m i : Nat} (hi : i < m) : lrec (wZ key b n m i) (wP key b n m (m - 1 - i)) = wZ key b n m (i + 1) ∧ lrecE (wZ key b n m i) (wP key b n m (m - 1 - i)) = 0 := by
  have e1 : wZ key b n m i = wY key b n 0 := if_pos hi
  rw [e1]
  by_cases h : i + 1 < m
  · rw [show wZ key b n m (i + 1) = wY key b n 0 from if_pos h]
    exact wY_other (by omega)
  · rw [show wZ key b n m (i + 1) = wY key b n 1 from if_neg h, show m - 1 - i = 0 from by omega]
    exact wY_next (by omega)
theorem OwnK.otherN {α : Type} {d : Kd α} {J : Im} {w w' : World} {B : Nat} {e e' : TypeId} {v : Value} {xs : List α} (h : OwnK d J w B e v xs) {b : Nat} {ds : List Value} (he : w' = setB w b ds e') (hb : v.ownBlock ≠ some b) : OwnK d J w' B e v xs := by
  subst he
  obtain ⟨cs, h1, h2⟩ := h.row
  refine ⟨⟨cs, h1.kept (row := some b) ⟨rfl, rfl, rfl, by simp [setB], fun k hk hne => ?_⟩ (.inr hb), h2⟩, h.im⟩
  simp only [setB]
  rw [Array.getElem?_setIfInBounds_ne (fun e => hne (by rw [e]))]
theorem flat1 : ∀ (vss : List (List Value)) (k : Nat), (∀ vs ∈ vss, vs.length = 1) → vss.flatten[k]? = (vss[k]?).bind (·[0]?)
  | [], k, _ => by simp
  | vs :: vss, 0, h => by
    obtain ⟨v, rfl⟩ := List.length_eq_one_iff.1 (h vs (by simp))
    simp
  | vs :: vss, k + 1, h => by
    obtain ⟨v, rfl⟩ := List.length_eq_one_iff.1 (h vs (by simp))
    have := flat1 vss k (fun u hu => h u (by simp [hu]))
    simpa using this
theorem Row.msgAt {J : Im} {cs : List Value} {xs : List (List Int)} (h : Row kB J cs xs) {k : Nat} (hk : k < xs.length) : ∃ A c, cs[k]? = some (.slice A xs[k].length c) ∧ xs[k].length ≤ c ∧ Els (kInt .u8) J A xs[k] := by
  obtain ⟨vss, rfl, h2, h3⟩ := h
  obtain ⟨vs, h4, A, c, rfl, h5, h6⟩ := h3 k _ (List.getElem?_eq_getElem hk)
  refine ⟨A, c, ?_, h5, h6⟩
  rw [flat1 vss k (fun vs hvs => ?_), h4]
  · rfl
  · obtain ⟨j, hj, rfl⟩ := List.getElem_of_mem hvs
    obtain ⟨vs', k1, k2⟩ := h3 j _ (List.getElem?_eq_getElem (by omega))
    rw [List.getElem?_eq_getElem hj] at k1
    injection k1 with k1
    rw [k1]
    exact kB.len k2
end Go.Proofs.Ytjjpaghloaggeaa
