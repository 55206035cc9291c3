/- Ranges over functions: the statement, its rounds, leaving the function; no program. -/
import Derived.Test.YtjjpaghloaggeaaStep
import Derived.RangeFuncLeaves
set_option linter.unusedVariables false
set_option linter.unusedSimpArgs false
namespace Go.Proofs.Ytjjpaghloaggeaa
open Go.RowKit
/-! ### Objects that are put anew -/
def setO (w : World) (b : Nat) (o : Obj) : World := { w with heap := w.heap.setIfInBounds b o }
theorem setO_at {w : World} {b : Nat} {x : Obj} (h : w.heap[b]? = some x) (o : Obj) : (setO w b o).heap[b]? = some o := by
  have := lt_of_heap h
  simp [setO, this]
theorem setO_ne {w : World} {b i : Nat} (o : Obj) (hne : b ≠ i) : (setO w b o).heap[i]? = w.heap[i]? := by
  simp only [setO]
  rw [Array.getElem?_setIfInBounds_ne hne]
theorem setO_size (w : World) (b : Nat) (o : Obj) : (setO w b o).heap.size = w.heap.size := by simp [setO]
theorem setO_setO (w : World) (b : Nat) (o p : Obj) : setO (setO w b o) b p = setO w b p := by
  simp only [setO]
  congr 1
  apply Array.ext_getElem?
  intro i
  by_cases h : b = i
  · subst h
    by_cases hb : b < w.heap.size <;> simp [hb]
  · rw [Array.getElem?_setIfInBounds_ne h, Array.getElem?_setIfInBounds_ne h, Array.getElem?_setIfInBounds_ne h]
theorem setO_self {w : World} {b : Nat} {o : Obj} (h : w.heap[b]? = some o) : setO w b o = w := by
  have e : w.heap.setIfInBounds b o = w.heap := by
    apply Array.ext_getElem?
    intro i
    by_cases hi : b = i
    · subst hi
      have := lt_of_heap h
      rw [h]; simp [this]
    · rw [Array.getElem?_setIfInBounds_ne hi]
  simp only [setO, e]
/-- From w to w' nothing but the blocks of S has changed; there may be more. -/
structure Mod (S : Nat → Prop) (w w' : World) : Prop where
  os : w'.os = w.os
  tape : w'.tape = w.tape
  output : w'.output = w.output
  size : w.heap.size ≤ w'.heap.size
  block : ∀ k, k < w.heap.size → ¬ S k → w'.heap[k]? = w.heap[k]?
theorem Mod.refl (S : Nat → Prop) (w : World) : Mod S w w := ⟨rfl, rfl, rfl, Nat.le_refl _, fun _ _ _ => rfl⟩
theorem Mod.trans {S : Nat → Prop} {w w1 w2 : World} (h : Mod S w w1) (k : Mod S w1 w2) : Mod S w w2 :=
  ⟨k.os.trans h.os, k.tape.trans h.tape, k.output.trans h.output, Nat.le_trans h.size k.size, fun i hi hS => (k.block i (Nat.lt_of_lt_of_le hi h.size) hS).trans (h.block i hi hS)⟩
theorem Mod.mono {S T : Nat → Prop} {w w' : World} (h : Mod S w w') (hs : ∀ k, S k → T k) : Mod T w w' := ⟨h.os, h.tape, h.output, h.size, fun k hk hT => h.block k hk (fun hS => hT (hs k hS))⟩
theorem Mod.ofGr {S : Nat → Prop} {w w' : World} (h : Gr w w') : Mod S w w' := ⟨h.b.os, h.b.tape, h.b.output, h.b.size, fun i hi _ => h.b.block i hi⟩
theorem Mod.setO {S : Nat → Prop} {w w' : World} (h : Mod S w w') {b : Nat} (hb : S b ∨ w.heap.size ≤ b) (o : Obj) : Mod S w (setO w' b o) :=
  ⟨h.os, h.tape, h.output, by rw [setO_size]; exact h.size, fun k hk hS => by
    rw [setO_ne o (fun e => by subst e; rcases hb with hb | hb; exact hS hb; omega)]
    exact h.block k hk hS⟩
theorem Mod.setB {S : Nat → Prop} {w w' : World} (h : Mod S w w') {b : Nat} (hb : S b ∨ w.heap.size ≤ b) (cs : List Value) (e : TypeId) : Mod S w (Go.Proofs.Ytjjpaghloaggeaa.setB w' b cs e) := h.setO hb _
theorem Mod.keep {S : Nat → Prop} {J : Im} {B : Nat} {w w' : World} (h : Keep J B w w') (hS : ∀ k, k < w.heap.size → B ≤ k → J k = none → S k) : Mod S w w' :=
  ⟨h.os, h.tape, h.output, h.size, fun k hk hn => h.block k hk (by
    rcases Nat.lt_or_ge k B with hb | hb
    · exact .inl hb
    · exact .inr (fun e => hn (hS k hk hb e)))⟩
theorem Mod.sat {S : Nat → Prop} {J : Im} {w w' : World} (h : Mod S w w') (hs : Sat J w) (hJ : ∀ k, S k → J k = none) : Sat J w' := fun b o hb => by
  rw [h.block b (hs.lt hb) (fun hS => by rw [hJ b hS] at hb; cases hb)]; exact hs b o hb
theorem Mod.obj {S : Nat → Prop} {w w' : World} (h : Mod S w w') {b : Nat} {o : Obj} (ho : w.heap[b]? = some o) (hS : ¬ S b) : w'.heap[b]? = some o := by rw [h.block b (lt_of_heap ho) hS]; exact ho
theorem Mod.gr {S : Nat → Prop} {w0 w w' : World} (h : Gr w0 w) (k : Mod S w w') (hS : ∀ b, b < w0.heap.size → ¬ S b) : Gr w0 w' :=
  ⟨⟨k.os.trans h.b.os, k.tape.trans h.b.tape, k.output.trans h.b.output, Nat.le_trans h.b.size k.size, fun i hi => (k.block i (Nat.lt_of_lt_of_le hi h.b.size) (hS i hi)).trans (h.b.block i hi)⟩⟩
/-- A step that writes the blocks of S; what stays may be more behind it. -/
structure NewS (S : Nat → Prop) (J : Im) (w : World) (J' : Im) (w' : World) : Prop where
  le : Im.le J J'
  sat : Sat J' w'
  mod : Mod S w w'
  old : ∀ b, b < w.heap.size → J' b = J b
theorem NewS.ofNew {S : Nat → Prop} {J J' : Im} {w w' : World} (h : New J w J' w') : NewS S J w J' w' := ⟨h.le, h.sat, .ofGr h.gr, h.old⟩
theorem NewS.refl {S : Nat → Prop} {J : Im} {w : World} (h : Sat J w) : NewS S J w J w := .ofNew (New.refl h)
theorem NewS.trans {S : Nat → Prop} {J J1 J2 : Im} {w w1 w2 : World} (h : NewS S J w J1 w1) (k : NewS S J1 w1 J2 w2) : NewS S J w J2 w2 :=
  ⟨h.le.trans k.le, k.sat, h.mod.trans k.mod, fun b hb => (k.old b (Nat.lt_of_lt_of_le hb h.mod.size)).trans (h.old b hb)⟩
theorem NewS.mono {S T : Nat → Prop} {J J' : Im} {w w' : World} (h : NewS S J w J' w') (hs : ∀ k, S k → T k) : NewS T J w J' w' := ⟨h.le, h.sat, h.mod.mono hs, h.old⟩
theorem New.transS {S : Nat → Prop} {I J J' : Im} {w0 w w' : World} (h : New I w0 J w) (k : NewS S J w J' w') (hS : ∀ b, S b → w0.heap.size ≤ b) : New I w0 J' w' :=
  ⟨h.le.trans k.le, k.sat, Mod.gr h.gr k.mod (fun b hb hs => by have := hS b hs; omega), fun b hb => (k.old b (Nat.lt_of_lt_of_le hb h.gr.size)).trans (h.old b hb)⟩
theorem Box.nextS {S : Nat → Prop} {J J' : Im} {w w' : World} {b : Nat} {cs : List Value} {e : TypeId} (h : Box J w b cs e) (k : NewS S J w J' w') (hS : ¬ S b) : Box J' w' b cs e := ⟨k.mod.obj h.blk hS, by rw [k.old b h.lt]; exact h.im⟩
theorem OwnK.nextS {α : Type} {d : Kd α} {S : Nat → Prop} {J K : Im} {w w' : World} {B : Nat} {e : TypeId} {v : Value} {xs : List α} (h : OwnK d J w B e v xs) (k : NewS S J w K w') (hS : ∀ b, B ≤ b → ¬ S b) : OwnK d K w' B e v xs := by
  obtain ⟨cs, h1, h2⟩ := h.row
  refine ⟨⟨cs, ⟨h1.1, ?_⟩, h2.up k.le⟩, fun g hg => by rw [k.old g (h.lt hg).2]; exact h.im g hg⟩
  rcases h1.2 with h3 | ⟨g, cap, cur, hv, hb, hh, hr⟩
  · exact .inl h3
  · exact .inr ⟨g, cap, cur, hv, hb, k.mod.obj hh (hS g hb), hr⟩
theorem New.setO {I J : Im} {w w1 : World} (h : New I w J w1) {b : Nat} (hb : w.heap.size ≤ b) (hJ : J b = none) (o : Obj) : New I w J (Go.Proofs.Ytjjpaghloaggeaa.setO w1 b o) := by
  refine ⟨h.le, fun i x hi => ?_, ⟨⟨h.gr.b.os, h.gr.b.tape, h.gr.b.output, by rw [setO_size]; exact h.gr.b.size, fun i hi => ?_⟩⟩, h.old⟩
  · rw [setO_ne o (fun e => by subst e; rw [hJ] at hi; cases hi)]; exact h.sat i x hi
  · rw [setO_ne o (by omega)]; exact h.gr.b.block i hi
theorem Box.otherO {J : Im} {w : World} {b b' : Nat} {cs : List Value} {e : TypeId} (h : Box J w b cs e) (hne : b' ≠ b) (o : Obj) : Box J (setO w b' o) b cs e := ⟨by unfold Blk; rw [setO_ne o hne]; exact h.blk, h.im⟩
theorem OwnK.otherO {α : Type} {d : Kd α} {J : Im} {w : World} {B : Nat} {e : TypeId} {v : Value} {xs : List α} (h : OwnK d J w B e v xs) {b : Nat} (hb : b < B) (o : Obj) : OwnK d J (setO w b o) B e v xs := by
  obtain ⟨cs, h1, h2⟩ := h.row
  refine ⟨⟨cs, ⟨h1.1, ?_⟩, h2⟩, h.im⟩
  rcases h1.2 with h3 | ⟨g, cap, cur, hv, hb', hh, hr⟩
  · exact .inl h3
  · exact .inr ⟨g, cap, cur, hv, hb', by rw [setO_ne o (by omega)]; exact hh, hr⟩
/-! ### Objects, run -/
section
variable {P : Program} {w : World}
theorem run_getLoop {L : Nat} {rc : Loop} (h : w.heap[L]? = some (.loop rc)) : (Instr.getLoop L).run P w = .ok rc w := by
  simp [Instr.getLoop, Sem.run_bind, getObj, Sem.run, h]
theorem run_setObj {L : Nat} {x : Obj} (h : w.heap[L]? = some x) (hx : ∀ c e f, x ≠ .cells c e f) (o : Obj) : (Go.setObj L o).run P w = .ok () (setO w L o) := by
  cases x <;> first | exact absurd rfl (hx _ _ _) | simp [Go.setObj, Sem.run, h, setO]
/-- The rounds of a loop are called by this value. -/
def yv (L : Nat) : Value := .func (.yield L) #[] #[]
/-- A round: what it hands back and leaves satisfies R. -/
def YRet (P : Program) (L : Nat) (args : List Value) (w : World) (R : Value → World → Prop) : Prop :=
  ∃ f tmps assign body, (Instr.yield L args.toArray).run P w = .ok (.round L f tmps assign body) w ∧ RoundIn Fence.wide 0 P L f tmps assign body w (fun e w' => ∃ v, e = .returned v ∧ R v w')
theorem YRet.mono {L : Nat} {args : List Value} {R R' : Value → World → Prop} (h : YRet P L args w R) (hr : ∀ v w', R v w' → R' v w') : YRet P L args w R' := by
  obtain ⟨f, tmps, assign, body, h1, h2⟩ := h
  exact ⟨f, tmps, assign, body, h1, h2.mono fun e w' ⟨v, he, hv⟩ => ⟨v, he, hr v w' hv⟩⟩
end
section
variable {r : Option Nat} {n : Nat} {P : Program} {ops : Array Oper} {Q : Exit → Act → World → Prop} {a : Act} {w w' : World} {rest : List Oper} {o : Oper} {N : Nat} {D : List Deferred} {l : Env} {t : Nat} {v : Value} {b c : Bool}
theorem RoundIn.Fr {L : Nat} {f : FuncId} {tmps : Array Value} {assign body : Code} {R : Ending → World → Prop} (h : RoundIn Fence.wide 0 P L f tmps assign body w R) (r : Option Nat) (n : Nat) : RoundIn (Fr r) n P L f tmps assign body w R :=
  ⟨trivial, fun c cs _ => h.2 c cs (room_wide _)⟩
/-- A call of yield. -/
theorem wly {L : Nat} {x : Operand} {xs : List Operand} {ts : Array TypeId} {ty : TypeId} {pos : String} {af : Array Edge} {vs : List Value} {R : Value → World → Prop}
    (H : Holds N D a l) (hx : lk l x = some (yv L)) (hxs : lks l xs = some vs) (ht : Nat.blt t N = true) (hc : YRet P L vs w R)
    (k : ∀ v w', R v w' → ∀ a', Holds N D a' ((t, v) :: l) → wpListIn (Fr r) n P ops Q rest a' w') :
    wpListIn (Fr r) n P ops Q (⟨some t, .call { callee := .value x, args := xs.toArray, argTypes := ts }, ty, pos, af, none⟩ :: rest) a w := by
  obtain ⟨f, tmps, assign, body, h1, h2⟩ := hc
  unfold wpListIn
  rw [if_pos (wantedNone rfl)]
  refine ⟨fun _ _ => trivial, ?_⟩
  rw [semAt_calm rfl]
  have e1 := H.ev x _ hx
  have e2 := H.ev.list xs vs hxs
  have h3 : (execOp a.eval ⟨some t, .call { callee := .value x, args := xs.toArray, argTypes := ts }, ty, pos, af, none⟩).run P w = .ok (.round L f tmps assign body) w := by
    simp only [execOp, resolve, e1, yv, Deferred.ofValue, Sem.run_bind, Sem.run_pure, Result.andThen_ok, invoke]
    rw [← h1]
    congr 2
    simp [e2]
  rw [h3, Oper.uponIn_round]
  refine ⟨(fun hd => (by cases hd)), (RoundIn.Fr h2 r _).mono ?_⟩
  rintro e w' ⟨u, rfl, hu⟩
  exact k u w' hu _ (H.put ht u)
theorem wlyg {g d : Nat} {L : Nat} {x : Operand} {xs : List Operand} {ts : Array TypeId} {ty : TypeId} {pos : String} {af : Array Edge} {vs : List Value} {R : Value → World → Prop}
    (H : Holds N D a l) (hgt : (ops[g]?).bind (·.dst) = some d) (hlt : Nat.blt d N = true) (hg : look l d = some (.bool b)) (hx : lk l x = some (yv L)) (hxs : lks l xs = some vs) (ht : Nat.blt t N = true) (hc : YRet P L vs w R)
    (k : ∀ v w', R v w' → ∀ a', Holds N D a' ((t, v) :: l) → wpListIn (Fr r) n P ops Q rest a' w') :
    wpListIn (Fr r) n P ops Q (⟨some t, .call { callee := .value x, args := xs.toArray, argTypes := ts }, ty, pos, af, some (g, b)⟩ :: rest) a w := by
  obtain ⟨f, tmps, assign, body, h1, h2⟩ := hc
  unfold wpListIn
  rw [if_pos (by simp [Region.wanted, yielded_of H hlt hgt hg])]
  refine ⟨fun _ _ => trivial, ?_⟩
  rw [semAt_calm rfl]
  have e1 := H.ev x _ hx
  have e2 := H.ev.list xs vs hxs
  have h3 : (execOp a.eval ⟨some t, .call { callee := .value x, args := xs.toArray, argTypes := ts }, ty, pos, af, some (g, b)⟩).run P w = .ok (.round L f tmps assign body) w := by
    simp only [execOp, resolve, e1, yv, Deferred.ofValue, Sem.run_bind, Sem.run_pure, Result.andThen_ok, invoke]
    rw [← h1]
    congr 2
    simp [e2]
  rw [h3, Oper.uponIn_round]
  refine ⟨(fun hd => (by cases hd)), (RoundIn.Fr h2 r _).mono ?_⟩
  rintro e w' ⟨u, rfl, hu⟩
  exact k u w' hu _ (H.put ht u)
/-- What is asked at a round's end. -/
abbrev RPost (P : Program) (L : Nat) (R : Value → World → Prop) : Exit → Act → World → Prop := roundPost P L (fun e w' => ∃ v, e = .returned v ∧ R v w')
/-- The record of a loop, ready for a round. -/
structure Ready (rc : Loop) (tmps : Array Value) (p : Nat) (body : Code) : Prop where
  st : rc.state = .ready
  pend : rc.pending = none
  tmps : rc.tmps = tmps
  params : rc.params = #[p]
  asg : rc.assign = .skip
  body : rc.body = body
/-- A round, out of its body: one loop variable, no code that assigns it. -/
theorem yield_of {L p : Nat} {rc : Loop} {body : Code} {x : Value} {R : Value → World → Prop} (hL : w.heap[L]? = some (.loop rc)) (hr : Ready rc a.tmps p body) (H : Holds N D a l) (hp : Nat.blt p N = true)
    (h : ∀ a', Holds N [] a' ((p, x) :: l) → body.wpIn (Fr (some L)) 0 P (RPost P L R) a' (setO w L (.loop { rc with state := .busy }))) : YRet P L [x] w R := by
  refine ⟨rc.fn, rc.tmps.setIfInBounds p x, rc.assign, rc.body, ?_, ?_⟩
  · simp only [Instr.yield, Sem.run_bind, run_getLoop hL, Result.andThen_ok, hr.params]
    simp [Sem.run_pure]
  · refine roundIn_of_wpIn (F := Fence.wide) trivial ?_
    rw [hr.asg, hr.body, hr.tmps]
    refine wpIn_skip ?_
    refine th_n ⟨setO w L (.loop { rc with state := .busy }), ?_, ?_⟩
    · simp only [Instr.beginRound, Sem.run_bind, run_getLoop hL, Result.andThen_ok, run_setObj hL (by simp), hr.st, Sem.run_pure]
    · refine h _ ?_
      have h1 : Holds N [] { tmps := a.tmps, defers := [] } l := ⟨rfl, H.n, H.h⟩
      exact h1.put hp x
/-- The same where code assigns the loop's variable. -/
theorem yield_ofA {L p : Nat} {rc : Loop} {assign body : Code} {x : Value} {R : Value → World → Prop} (hL : w.heap[L]? = some (.loop rc)) (h1 : rc.state = .ready) (h2 : rc.params = #[p]) (h3 : rc.tmps = a.tmps) (h4 : rc.assign = assign) (h5 : rc.body = body) (H : Holds N D a l) (hp : Nat.blt p N = true)
    (h : ∀ a', Holds N [] a' ((p, x) :: l) → assign.wpIn (Fr (some L)) 0 P (Exit.then (fun a₁ w₁ => w₁ = w ∧ body.wpIn (Fr (some L)) 0 P (RPost P L R) a₁ (setO w L (.loop { rc with state := .busy }))) (fun _ _ _ => False)) a' w) : YRet P L [x] w R := by
  refine ⟨rc.fn, rc.tmps.setIfInBounds p x, rc.assign, rc.body, ?_, ?_⟩
  · simp only [Instr.yield, Sem.run_bind, run_getLoop hL, Result.andThen_ok, h2]
    simp [Sem.run_pure]
  · refine roundIn_of_wpIn (F := Fence.wide) trivial ?_
    rw [h4, h5, h3]
    have h0 : Holds N [] { tmps := a.tmps, defers := [] } l := ⟨rfl, H.n, H.h⟩
    refine wpIn_mono (h _ (h0.put hp x)) ?_
    intro e a₁ w₁ hq
    cases e with
    | normal =>
      obtain ⟨rfl, hb⟩ := hq
      refine ⟨_, ?_, hb⟩
      simp only [Instr.beginRound, Sem.run_bind, run_getLoop hL, Result.andThen_ok, run_setObj hL (by simp), h1, Sem.run_pure]
    | exit i => exact hq.elim
    | goto i => exact hq.elim
    | ret => exact hq.elim
    | panic ch => exact hq.elim
    | outgrown => exact hq.elim
/-- A round that goes on. -/
theorem round_n {L : Nat} {rc : Loop} {R : Value → World → Prop} (hL : w.heap[L]? = some (.loop { rc with state := .busy })) (hst : rc.state = .ready) (hpd : rc.pending = none) (hR : R (.bool true) (setO w L (.loop rc))) : RPost P L R .normal a w := by
  refine ⟨.bool true, setO w L (.loop rc), ?_, _, rfl, hR⟩
  simp only [Instr.endRound, Sem.run_bind, run_getLoop hL, Result.andThen_ok]
  have e : ({ rc with state := .busy } : Loop) = { rc with state := .busy } := rfl
  rw [run_setObj hL (by simp)]
  simp only [Result.andThen_ok, Sem.run_pure, Option.isNone_none, if_true]
  obtain ⟨s, p, f, tm, ps, as, bd, df⟩ := rc
  simp only at hst hpd
  subst hst hpd
  rfl
/-- 'for x := range f { .. }' -/
theorem w_range {f p : Nat} {g : Operand} {assign body : Code} {first capt : List Value} (H : Holds N D a l) (hg : lk l g = some (.func (.func f) first.toArray capt.toArray)) (hb : HasBody P f)
    (h : ∀ fn L Dd, w.heap.size ≤ Dd → Dd < L → Gr w ((w.alloc (.deferred (some []))).alloc (.loop { state := .ready, pending := none, fn := fn, tmps := a.tmps, params := #[p], assign := assign, body := body, defers := w.heap.size })) →
      ((w.alloc (.deferred (some []))).alloc (.loop { state := .ready, pending := none, fn := fn, tmps := a.tmps, params := #[p], assign := assign, body := body, defers := w.heap.size })).heap[L]? = some (.loop { state := .ready, pending := none, fn := fn, tmps := a.tmps, params := #[p], assign := assign, body := body, defers := w.heap.size }) →
      ((w.alloc (.deferred (some []))).alloc (.loop { state := .ready, pending := none, fn := fn, tmps := a.tmps, params := #[p], assign := assign, body := body, defers := w.heap.size })).heap[Dd]? = some (.deferred (some [])) →
      Ret P f (first ++ [yv L] ++ capt) ((w.alloc (.deferred (some []))).alloc (.loop { state := .ready, pending := none, fn := fn, tmps := a.tmps, params := #[p], assign := assign, body := body, defers := w.heap.size })) (fun v w3 => ∃ rc3, w3.heap[L]? = some (.loop rc3) ∧ rc3.state = .ready ∧ rc3.pending = none ∧
        (∀ a', Holds N (⟨.collected Dd, #[]⟩ :: D) a' l → Q .normal a' (setO w3 L (.loop { rc3 with state := .exhausted }))))) :
    (Code.rangeFunc g #[p] assign body).wpIn (Fr none) 0 P Q a w := by
  refine wpIn_rangeFunc (F := Fr none) (fun fn _ => ?_)
  let rc : Loop := { state := .ready, pending := none, fn := fn, tmps := a.tmps, params := #[p], assign := assign, body := body, defers := w.heap.size }
  let w1 : World := (w.alloc (.deferred (some []))).alloc (.loop rc)
  have hL : w1.heap[w.heap.size + 1]? = some (.loop rc) := heap_new2' _ _ _
  have hD : w1.heap[w.heap.size]? = some (.deferred (some [])) := heap_new2 _ _ _
  have h1 := h fn (w.heap.size + 1) w.heap.size (Nat.le_refl _) (by omega) (((Gr.refl _).alloc _).alloc _) hL hD
  have hev := H.ev g _ hg
  refine ⟨w.heap.size + 1, [⟨.collected w.heap.size, #[]⟩], w1, ⟨.fn (.func f) capt.toArray, (first ++ [yv (w.heap.size + 1)]).toArray⟩, w1, f, (first ++ [yv (w.heap.size + 1)] ++ capt).toArray, w1, ?_, ?_, fun _ _ => trivial, ?_, (fun hd => (by cases hd)), ?_⟩
  · simp only [Instr.enterLoop, Fr, Sem.run_bind, newObj, Sem.run, Result.andThen_ok, Sem.run_pure, Array.size_push]
    rfl
  · simp only [resolve, rangeCall, hev, Deferred.ofValue, Sem.run_pure]
    congr 2
    simp [yv, Act.eval]
  · simp only [invoke]
    rw [← hb (first ++ [yv (w.heap.size + 1)] ++ capt).toArray w1]
    congr 2
    simp
  · refine CallsIn.Fr (Calls.mono h1 ?_) none _
    rintro e w3 ⟨v, rfl, rc3, h3, h4, h5, h6⟩
    refine ⟨none, setO w3 (w.heap.size + 1) (.loop { rc3 with state := .exhausted }), ?_, ?_⟩
    · simp only [Instr.endLoop, Sem.run_bind, run_getLoop h3, Result.andThen_ok, h4]
      have : (LoopState.ready == LoopState.busy) = false := rfl
      simp only [this, Bool.false_eq_true, if_false, Sem.run_pure, Sem.run_bind, Result.andThen_ok, run_setObj h3 (by simp), h5]
    · refine h6 _ ⟨?_, H.n, H.h⟩
      show _ ++ a.defers = _
      rw [H.d]; rfl
/-- What the body of a function with a range over a function must achieve. -/
abbrev PostM (P : Program) (fn : Func) (R : Value → World → Prop) : Exit → Act → World → Prop := bodyPostM (Fr none) 0 P fn (fun e w' => ∃ v, e = .returned v ∧ R v w')
theorem ret_ofM {f : FuncId} {fn : Func} {c : Code} {args : List Value} {R : Value → World → Prop} (hf : P.funcs[f]? = some fn) (hb : fn.body = some c) (hn : Nat.ble args.length fn.ntmps = true) (hN : fn.ntmps = N)
    (h : ∀ a, Holds N [] a (argsEnv 0 args) → c.wpIn (Fr none) 0 P (PostM P fn R) a w) : Ret P f args w R := by
  subst hN
  have hn' : args.length ≤ fn.ntmps := by simpa using hn
  refine (callsIn_wide (n := 0)).1 (callsIn_of_wp_marks hf hb trivial (h _ ?_))
  rw [List.size_toArray]
  exact Holds.args (by omega)
theorem finM {Dd : Nat} {fn : Func} {R : Value → World → Prop} {v : Value} (H : Holds N [⟨.collected Dd, #[]⟩] a l) (hD : w.heap[Dd]? = some (.deferred (some []))) (hr : (results fn a.tmps).run P (setO w Dd (.deferred none)) = .ok v (setO w Dd (.deferred none))) (hR : R v (setO w Dd (.deferred none))) : PostM P fn R .ret a w := by
  show LeavesInM (Fr none) 0 P fn a.tmps _ a.defers .returning w
  rw [H.d]
  refine ⟨by simp, .inl ⟨Dd, setO w Dd (.deferred none), rfl, ?_, ?_⟩⟩
  · simp only [Instr.takeDeferred, Sem.run_bind]
    have e : (getObj Dd).run P w = .ok (.deferred (some [])) w := by simp [getObj, Sem.run, hD]
    simp only [e, Result.andThen_ok, Sem.run_bind, run_setObj hD (by simp), Sem.run_pure]
  · exact ⟨v, hr, v, rfl, hR⟩
theorem fin0M {fn : Func} {R : Value → World → Prop} {v : Value} (H : Holds N [] a l) (hr : (results fn a.tmps).run P w = .ok v w) (hR : R v w) : PostM P fn R .ret a w := by
  show LeavesInM (Fr none) 0 P fn a.tmps _ a.defers .returning w
  rw [H.d]
  exact ⟨v, hr, v, rfl, hR⟩
end
section
variable {r : Option Nat} {n : Nat} {P : Program} {ops : Array Oper} {Q : Exit → Act → World → Prop} {a : Act} {w : World} {rest : List Oper} {N : Nat} {D : List Deferred} {l : Env} {ty : TypeId} {pos : String} {af : Array Edge} {J : Im}
/-- A store of one cell, whoever made the block. -/
theorem s_storeS {T : TypeId} {x y : Operand} {v : Value} {b o : Nat} {cs : List Value} {e : TypeId} (H : Holds N D a l) (hz : Sz P T 1) (h1 : v.oneCell' = true) (hx : lk l x = some (.pointer (some ⟨b, o, none⟩))) (hy : lk l y = some v) (hS : Sat J w) (hb : Box J w b cs e) (ho : o < cs.length)
    (k : ∀ w', Sat J w' → Box J w' b (cs.set o v) e → w' = setB w b (cs.set o v) e → Holds N D a l → wpListIn (Fr r) n P ops Q rest a w') :
    wpListIn (Fr r) n P ops Q (⟨none, .store T x y, ty, pos, af, none⟩ :: rest) a w :=
  wl0 H (r_store hz h1 hx hy hb.blk ho) rfl rfl rfl (fun H' => k _ (hS.setB hb.im _ _) hb.set rfl H')
theorem Apx.one {α : Type} {d : Kd α} {J : Im} {w : World} {B : Nat} {e : TypeId} {v : Value} {xs : List α} (h : Apx d J w B e v xs) : v.oneCell' = true := by
  obtain ⟨A, c, rfl, _⟩ := h.form
  rfl
theorem Apx.other {α : Type} {d : Kd α} {J : Im} {w : World} {B : Nat} {e e' : TypeId} {v : Value} {xs : List α} (h : Apx d J w B e v xs) {b : Nat} (hb : b < B) (ds : List Value) : Apx d J (setB w b ds e') B e v xs := by
  rcases h with h | h
  · exact .inl (h.other hb ds)
  · exact .inr h
theorem Apx.gr {α : Type} {d : Kd α} {J : Im} {w w' : World} {B : Nat} {e : TypeId} {v : Value} {xs : List α} (h : Apx d J w B e v xs) (k : Gr w w') : Apx d J w' B e v xs := by
  rcases h with h | h
  · exact .inl (h.gr k)
  · exact .inr h
theorem Apx.keepS {α : Type} {d : Kd α} {S : Nat → Prop} {J : Im} {w w' : World} {B : Nat} {e : TypeId} {v : Value} {xs : List α} (h : Apx d J w B e v xs) (k : NewS S J w J w') (hS : ∀ b, B ≤ b → ¬ S b) : Apx d J w' B e v xs := by
  rcases h with h | h
  · exact .inl (h.nextS k hS)
  · exact .inr h
end
theorem imOf_le {w w' : World} (h : Gr w w') : Im.le (imOf w) (imOf w') := fun b o hb => h.block hb
theorem Sat.imOf {I : Im} {w : World} (h : Sat I w) : Im.le I (Go.Proofs.Ytjjpaghloaggeaa.imOf w) := h
section
variable {P : Program} {l : Env} {w : World} {d : Option Nat} {ty : TypeId} {pos : String} {af : Array Edge} {g : Option (Nat × Bool)} {x y z : Operand} {v u : Value} {q q' : IntKind} {m k : Int} {t t' : TypeId}
theorem r_lit1 {e : TypeId} {c : Nat} {zv : Value} {ps : List (Nat × Operand)} {cs : List Value} (hT : P.underlying t = some (.slice e)) (hs : Sz P e 1) (hz : Zv P e zv) (hp : parts l ps = some (enumL 0 cs)) (hc : cs.length = c) (hsmall : Nat.ble c 16777216 = true) (h1 : ∀ v ∈ cs, v.oneCell' = true) :
    Run1 P l ⟨d, .buildSlice t c ps.toArray, ty, pos, af, g⟩ w (.slice (some ⟨w.heap.size, 0, none⟩) c c) (w.alloc (.cells cs.toArray e)) := by
  refine r_buildSlice (sz := 1) (zv := zv) hT hs hz hp (by simpa using hsmall) ?_
  have := fill_ones cs 0 [] (((Array.range (c * 1)).map ((if c * 1 = 0 then #[] else zv.cells)[· % (if c * 1 = 0 then #[] else zv.cells).size]!)).toList) h1 rfl (by simp [hc])
  rw [List.nil_append, Array.toArray_toList] at this
  exact this
/-- A literal of numbers in a region that draws its order. -/
theorem OpOK.litN {e : TypeId} {c : Nat} {zv : Value} {ps : List (Nat × Operand)} {xs : List Int} (hT : P.underlying t = some (.slice e)) (hs : Sz P e 1) (hz : Zv P e zv) (hp : parts l ps = some (enumL 0 (xs.map (Value.int q)))) (hc : xs.length = c) (hsmall : Nat.ble c 16777216 = true) (hk : ∀ x ∈ xs, InK q x) :
    OpOK P l ⟨d, .buildSlice t c ps.toArray, ty, pos, af, g⟩ w (fun u _ w => ∃ b, u = .slice (some ⟨b, 0, none⟩) c c ∧ Els (kInt q) (imOf w) (some ⟨b, 0, none⟩) xs) := by
  refine ⟨_, _, r_lit1 hT hs hz hp (by simpa using hc) hsmall (fun v hv => ?_), (Gr.refl _).alloc _, _, rfl, ?_⟩
  · simp only [List.mem_map] at hv
    obtain ⟨x, _, rfl⟩ := hv
    rfl
  · have hl : xs.length ≤ 16777216 := by rw [hc]; simpa using hsmall
    exact Els.nums (e := e) (fr := (0, 0)) (heap_new w _) (by omega) hk
theorem run_make1 {e : TypeId} {n bytes : Nat} {zv : Value} {q q' : IntKind} (hT : P.underlying t = some (.slice e)) (hinfo : (P.info? e).map (fun i => (i.zero, i.size, i.bytes)) = some (some zv, 1, bytes)) (hz1 : zv.oneCell' = true) (hn : n ≤ 16777216) (hb : bytes ≤ 1024) :
    (Instr.makeSlice t (.int q (n : Int)) (.int q' (n : Int))).run P w = .ok (.slice (some ⟨w.heap.size, 0, none⟩) n n) (w.alloc (.cells (List.replicate n zv).toArray e)) := by
  obtain ⟨i0, hi, hzz⟩ := Option.map_eq_some_iff.1 hinfo
  simp only [Prod.mk.injEq] at hzz
  obtain ⟨hz0, h1, h2⟩ := hzz
  have hw : IntKind.i64.wrap (n : Int) = (n : Int) := InK.wrap (q := .i64) (by simp only [InK]; omega)
  have hbn : (bytes : Int) * (n : Int) ≤ 17179869184 := by
    have := Nat.mul_le_mul hb hn
    have e : (bytes : Int) * (n : Int) = ((bytes * n : Nat) : Int) := by push_cast; rfl
    rw [e]; omega
  have hz : zv.cells = #[zv] := by cases zv <;> first | rfl | (simp [Value.oneCell'] at hz1; done)
  have c1 : ¬ (281474976710656 : Int) < (bytes : Int) * (n : Int) := by omega
  have c2 : ¬ ((n : Int) < 0) := by omega
  have c3 : ¬ 140737488355328 < n * bytes := by
    have e : (bytes : Int) * (n : Int) = ((n * bytes : Nat) : Int) := by push_cast; exact Int.mul_comm _ _
    rw [e] at hbn; omega
  have hrow : ((Array.range (n * 1)).map ((if n * 1 = 0 then #[] else #[zv])[· % (if n * 1 = 0 then #[] else #[zv]).size]!)) = (List.replicate n zv).toArray := by
    apply Array.ext
    · simp
    · intro i h1 h2
      have hn0 : ¬ n = 0 := by simp at h2; omega
      simp [hn0, Nat.mod_one]
  have ti : ∀ w, (typeInfo e).run P w = .ok i0 w := fun w => by simp [typeInfo, program, Sem.run_bind, Sem.run, hi, go_sem]
  have si : ∀ w, (sizeOf e).run P w = .ok 1 w := fun w => by simp only [sizeOf, Sem.run_bind, ti, Result.andThen_ok, Sem.run_pure, h1]
  have zi : ∀ w, (zeroValue e).run P w = .ok zv w := fun w => by simp only [zeroValue, Sem.run_bind, ti, Result.andThen_ok, hz0, Sem.run_pure]
  simp only [Instr.makeSlice, Sem.run_bind, run_underlying hT, Result.andThen_ok, asInt, asIntOf, Sem.run_pure, ti, h2, hw, askRoom, roomBytes]
  simp only [Nat.reducePow, Int.reducePow, gt_iff_lt, c1, c2, decide_false, Bool.or_false, Bool.false_eq_true, Int.lt_irrefl, or_self, if_false, Int.toNat_natCast, c3, Sem.run_pure, Result.andThen_ok, Sem.run_bind, si]
  by_cases hn0 : n * 1 = 0
  · simp only [hn0, if_true, Sem.run_pure, Result.andThen_ok, newRow, newObj, Sem.run, Sem.run_bind] at hrow ⊢
    rw [hrow]
    rfl
  · simp only [hn0, if_false, Sem.run_pure, Result.andThen_ok, newRow, newObj, Sem.run, Sem.run_bind, zi, hz] at hrow ⊢
    rw [hrow]
    rfl
theorem r_make1 {e : TypeId} {n bytes : Nat} {zv : Value} (hT : P.underlying t = some (.slice e)) (hinfo : (P.info? e).map (fun i => (i.zero, i.size, i.bytes)) = some (some zv, 1, bytes)) (hz1 : zv.oneCell' = true) (hx : lk l x = some (.int q (n : Int))) (hy : lk l y = some (.int q' (n : Int))) (hn : n ≤ 16777216) (hb : Nat.ble bytes 1024 = true) :
    Run1 P l ⟨d, .makeSlice t x y, ty, pos, af, g⟩ w (.slice (some ⟨w.heap.size, 0, none⟩) n n) (w.alloc (.cells (List.replicate n zv).toArray e)) :=
  fun ev h => by
    simp only [execOp, h x _ hx, h y _ hy, Sem.run_bind, run_make1 (q := q) (q' := q') hT hinfo hz1 hn (by simpa using hb), Result.andThen_ok, Sem.run_pure]
end
section
variable {r : Option Nat} {n : Nat} {P : Program} {ops : Array Oper} {Q : Exit → Act → World → Prop} {a : Act} {w : World} {rest : List Oper} {N : Nat} {D : List Deferred} {l : Env} {t : Nat} {ty : TypeId} {pos : String} {af : Array Edge} {I J : Im} {w0 : World}
/-- make -/
theorem s_make {T e : TypeId} {c bytes : Nat} {zv : Value} {q q' : IntKind} {m : Int} {x y : Operand} (H : Holds N D a l) (hT : P.underlying T = some (.slice e)) (hinfo : (P.info? e).map (fun i => (i.zero, i.size, i.bytes)) = some (some zv, 1, bytes)) (hz1 : zv.oneCell' = true) (hx : lk l x = some (.int q m)) (hy : lk l y = some (.int q' m)) (hm : m = (c : Int)) (hn : c ≤ 16777216) (hb : Nat.ble bytes 1024 = true) (ht : Nat.blt t N = true) (hN : New I w0 J w)
    (k : ∀ w' b, New I w0 J w' → Gr w w' → Box J w' b (List.replicate c zv) e → w0.heap.size ≤ b → b = w.heap.size → ∀ a', Holds N D a' ((t, .slice (some ⟨b, 0, none⟩) c c) :: l) → wpListIn (Fr r) n P ops Q rest a' w') :
    wpListIn (Fr r) n P ops Q (⟨some t, .makeSlice T x y, ty, pos, af, none⟩ :: rest) a w := by
  subst hm
  exact wl1 H (r_make1 hT hinfo hz1 hx hy hn hb) rfl rfl rfl ht (fun a' H' => k _ _ (hN.alloc _) ((Gr.refl _).alloc _) (Box.new hN _ _) hN.gr.size rfl a' H')
end
theorem Box.otherE {J : Im} {w w' : World} {b b' : Nat} {cs ds : List Value} {e e' : TypeId} (h : Box J w b cs e) (he : w' = setB w b' ds e') (hne : b' ≠ b) : Box J w' b cs e := he ▸ h.other hne
theorem OwnK.otherE {α : Type} {d : Kd α} {J : Im} {w w' : World} {B : Nat} {e e' : TypeId} {v : Value} {xs : List α} (h : OwnK d J w B e v xs) {b : Nat} {ds : List Value} (he : w' = setB w b ds e') (hb : b < B) : OwnK d J w' B e v xs := he ▸ h.other hb ds
section
end
/-- An object of the walk's own that is no row of cells. -/
structure Ob (J : Im) (w : World) (b : Nat) (o : Obj) : Prop where
  at_ : w.heap[b]? = some o
  im : J b = none
theorem Ob.lt {J : Im} {w : World} {b : Nat} {o : Obj} (h : Ob J w b o) : b < w.heap.size := lt_of_heap h.at_
theorem Ob.gr {J : Im} {w w' : World} {b : Nat} {o : Obj} (h : Ob J w b o) (k : Gr w w') : Ob J w' b o := ⟨k.block h.at_, h.im⟩
theorem Ob.next {J J' : Im} {w w' : World} {b : Nat} {o : Obj} (h : Ob J w b o) (k : New J w J' w') : Ob J' w' b o := ⟨k.gr.block h.at_, by rw [k.old b h.lt]; exact h.im⟩
theorem Ob.nextS {S : Nat → Prop} {J J' : Im} {w w' : World} {b : Nat} {o : Obj} (h : Ob J w b o) (k : NewS S J w J' w') (hS : ¬ S b) : Ob J' w' b o := ⟨k.mod.obj h.at_ hS, by rw [k.old b h.lt]; exact h.im⟩
theorem Ob.otherE {J : Im} {w w' : World} {b b' : Nat} {o : Obj} {ds : List Value} {e' : TypeId} (h : Ob J w b o) (he : w' = setB w b' ds e') (hne : b' ≠ b) : Ob J w' b o := ⟨by rw [he]; exact (setO_ne _ hne).trans h.at_, h.im⟩
theorem Ob.otherO {J : Im} {w : World} {b b' : Nat} {o : Obj} (h : Ob J w b o) (hne : b' ≠ b) (o' : Obj) : Ob J (setO w b' o') b o := ⟨(setO_ne _ hne).trans h.at_, h.im⟩
theorem Ob.set {J : Im} {w : World} {b : Nat} {o : Obj} (h : Ob J w b o) (o' : Obj) : Ob J (setO w b o') b o' := ⟨setO_at h.at_ o', h.im⟩
theorem Ob.keep {J : Im} {B b : Nat} {w w' : World} {o : Obj} (h : Ob J w b o) (k : Keep J B w w') (hb : b < B) : Ob J w' b o := ⟨by rw [k.block b h.lt (.inl hb)]; exact h.at_, h.im⟩
theorem Box.keep {J : Im} {B b : Nat} {w w' : World} {cs : List Value} {e : TypeId} (h : Box J w b cs e) (k : Keep J B w w') (hb : b < B) : Box J w' b cs e := k.box h hb
section
variable {P : Program} {Q : Exit → Act → World → Prop} {a : Act} {w : World} {N : Nat} {D : List Deferred} {l : Env}
/-- 'for x := range f { .. }', the world behind the record's making being named. -/
theorem w_range' {f p : Nat} {g : Operand} {assign body : Code} {first capt : List Value} (H : Holds N D a l) (hg : lk l g = some (.func (.func f) first.toArray capt.toArray)) (hb : HasBody P f)
    (h : ∀ rc L Dd w1, w.heap.size ≤ Dd → Dd < L → L + 1 = w1.heap.size → Gr w w1 → w1.heap[L]? = some (.loop rc) → w1.heap[Dd]? = some (.deferred (some [])) → rc.state = .ready → rc.pending = none → rc.tmps = a.tmps → rc.params = #[p] → rc.assign = assign → rc.body = body →
      Ret P f (first ++ [yv L] ++ capt) w1 (fun v w3 => w3.heap[L]? = some (.loop rc) ∧ (∀ a', Holds N (⟨.collected Dd, #[]⟩ :: D) a' l → Q .normal a' (setO w3 L (.loop { rc with state := .exhausted }))))) :
    (Code.rangeFunc g #[p] assign body).wpIn (Fr none) 0 P Q a w := by
  refine w_range H hg hb (fun fn L Dd h1 h2 h3 h4 h5 => ?_)
  have hLs : L + 1 = ((w.alloc (.deferred (some []))).alloc (.loop { state := .ready, pending := none, fn := fn, tmps := a.tmps, params := #[p], assign := assign, body := body, defers := w.heap.size })).heap.size := by
    have := lt_of_heap h4
    simp at this ⊢
    omega
  exact (h _ L Dd _ h1 h2 hLs h3 h4 h5 rfl rfl rfl rfl rfl rfl).mono (fun v w3 ⟨k1, k2⟩ => ⟨_, k1, rfl, rfl, k2⟩)
end
/-- One element in a block of its own. -/
theorem Els.one {α : Type} {d : Kd α} {J : Im} {b : Nat} {e : TypeId} {vs : List Value} {x : α} {fr : Nat × Nat} (hJ : J b = some (.cells vs.toArray e fr)) (h : d.rep J vs x) : Els d J (some ⟨b, 0, none⟩) [x] :=
  (Row.one h).els (rest := []) (by simpa using hJ) (by simp)
section
end
section
variable {N : Nat} {D : List Deferred} {a : Act} {l : Env} {P : Program} {w : World}
/-- A result that lies in memory. -/
theorem resC {fn : Func} {t T b : Nat} {cs : List Value} {e : TypeId} {J : Im} (hr : fn.results = #[.cell t T]) (H : Holds N D a l) (hv : look l t = some (.pointer (some ⟨b, 0, none⟩))) (hb : Box J w b cs e) (hS : Ag P T cs.length) : (results fn a.tmps).run P w = .ok (.agg cs.toArray) w := by
  have h1 := H.h t _ hv
  rw [Array.getD_eq_getD_getElem?] at h1
  have := run_loadCellsFrom (P := P) (w := w) ⟨b, 0, none⟩ cs 0 #[] (fun j u hu => by
    have := hb.cell (o := j) hu
    simp only [Addr.add, Nat.zero_add]; split <;> rename_i hj <;> simp_all)
  simp only [results, hr, Array.mapM_eq_mapM_toList, List.mapM_cons, List.mapM_nil, Array.getD_eq_getD_getElem?, h1, asAddr, loadVar, Sem.run_bind, Sem.run_pure, Result.andThen_ok, (hS w).1, (hS w).2, loadCells, if_true, this, Sem.run_map]
  simp
end
section
variable {r : Option Nat} {n : Nat} {P : Program} {ops : Array Oper} {Q : Exit → Act → World → Prop} {a : Act} {w : World} {rest : List Oper} {N : Nat} {D : List Deferred} {l : Env} {b : Bool}
/-- The guard holds. -/
theorem wl_on {g d : Nat} {t : Option Nat} {op : Op} {ty : TypeId} {pos : String} {af : Array Edge} (H : Holds N D a l) (hgt : (ops[g]?).bind (·.dst) = some d) (hlt : Nat.blt d N = true) (hg : look l d = some (.bool b))
    (h : wpListIn (Fr r) n P ops Q (⟨t, op, ty, pos, af, none⟩ :: rest) a w) : wpListIn (Fr r) n P ops Q (⟨t, op, ty, pos, af, some (g, b)⟩ :: rest) a w := by
  unfold wpListIn at h ⊢
  rw [if_pos (wantedNone rfl)] at h
  rw [if_pos (by simp [Region.wanted, yielded_of H hlt hgt hg])]
  exact h
end
/-- All cells of a box. -/
theorem Box.agg {J : Im} {w : World} {b : Nat} {cs : List Value} {e : TypeId} (h : Box J w b cs e) : ∀ j u, cs[j]? = some u → w.cell? ((⟨b, 0, none⟩ : Addr).add j) = some u := fun j u hu => by
  have := h.cell (o := j) hu
  simp only [Addr.add, Nat.zero_add]; split <;> rename_i hj <;> simp_all
theorem Box.aggAt {J : Im} {w : World} {b o : Nat} {cs ds : List Value} {e : TypeId} (h : Box J w b cs e) (hd : ∀ j u, ds[j]? = some u → cs[o + j]? = some u) : ∀ j u, ds[j]? = some u → w.cell? ((⟨b, o, none⟩ : Addr).add j) = some u := fun j u hu => by
  have := h.cell (o := o + j) (hd j u hu)
  simp only [Addr.add]; split <;> rename_i hj <;> simp_all
theorem sz_setB {w w' : World} {b B : Nat} {cs : List Value} {e : TypeId} (he : w' = setB w b cs e) (h : B ≤ w.heap.size) : B ≤ w'.heap.size := by rw [he]; simpa [setB] using h
theorem OwnK.base {α : Type} {d : Kd α} {J : Im} {w : World} {B B' : Nat} {e : TypeId} {v : Value} {xs : List α} (h : OwnK d J w B' e v xs) (hB : B ≤ B') : OwnK d J w B e v xs := by
  obtain ⟨cs, h1, h2⟩ := h.row
  refine ⟨⟨cs, ⟨h1.1, ?_⟩, h2⟩, h.im⟩
  rcases h1.2 with h3 | ⟨g, cap, cur, hv, hb, hr⟩
  · exact .inl h3
  · exact .inr ⟨g, cap, cur, hv, Nat.le_trans hB hb, hr⟩
theorem Apx.base {α : Type} {d : Kd α} {J : Im} {w : World} {B B' : Nat} {e : TypeId} {v : Value} {xs : List α} (h : Apx d J w B' e v xs) (hB : B ≤ B') : Apx d J w B e v xs := by
  rcases h with h | h
  · exact .inl (h.base hB)
  · exact .inr h
theorem Keep.gr {J : Im} {B : Nat} {w w' : World} (k : Keep J B w w') (hB : w.heap.size ≤ B) : Gr w w' := ⟨⟨k.os, k.tape, k.output, k.size, fun i hi => k.block i hi (.inl (by omega))⟩⟩
section
variable {P : Program} {l : Env}
/-- An append onto a full slice, in a region that draws its order. -/
theorem OpOK.app {α : Type} {d : Kd α} {J : Im} {w : World} {B : Nat} {T e ty : TypeId} {s x : Operand} {z : Value} {bytes : Nat} {xs ys : List α} {A0 A : Option Addr} {m c n : Nat} {dst : Option Nat} {pos : String} {af : Array Edge} {g : Option (Nat × Bool)} (hs : lk l s = some (.slice A0 n n)) (hx : lk l x = some (.slice A m c)) (hT : P.underlying T = some (.slice e)) (hinfo : (P.info? e).map (fun i => (i.zero, i.size, i.bytes)) = some (some z, d.n, bytes)) (hz : z.cells.size = d.n) (hd0 : 0 < d.n) (hb0 : 0 < bytes)
    (hS : Sat J w) (HA : Els d J A0 xs) (hn : xs.length = n) (HE : Els d J A ys) (hm : ys.length = m) (hB : B ≤ w.heap.size) (hl : (xs.length + m) * bytes ≤ 140737488355328) :
    OpOK P l ⟨dst, .call { callee := .builtin .append, args := #[s, x], argTypes := #[T, T] }, ty, pos, af, g⟩ w (fun v _ w' => Apx d J w' B e v (xs ++ ys)) := by
  subst hn
  obtain ⟨v', w', hr, h1, _, _, h4⟩ := run_app (ty := ty) (B := w.heap.size) (c := c) hT hinfo hz hd0 hb0 hS (.inr ⟨A0, rfl, HA⟩) HE hm (Nat.le_refl _) hl
  refine ⟨v', w', fun ev hev => ?_, h4.gr (Nat.le_refl _), h1.base hB⟩
  simp only [execOp, resolve, invoke, builtin, Sem.run_bind, Sem.run_pure, Result.andThen_ok, List.map_toArray, List.map_cons, List.map_nil, hev s _ hs, hev x _ hx, hr]
end
section
variable {P : Program} {l : Env} {w : World} {t : TypeId} {x : Operand} {v : Value} {d : Option Nat} {ty : TypeId} {pos : String} {af : Array Edge} {g : Option (Nat × Bool)}
/-- A field of a struct value. -/
theorem r_fieldv (off : Nat) {cs : Array Value} {f : Nat} (hx : lk l x = some (.agg cs)) (hv : cs.toList[off]? = some v) (hf : (Instr.field t (.agg cs) f).run P w = .ok v w) : Run1 P l ⟨d, .field t x f, ty, pos, af, g⟩ w v w := r_field hx hf
end
theorem Apx.otherE {α : Type} {d : Kd α} {J : Im} {w w' : World} {B : Nat} {e e' : TypeId} {v : Value} {xs : List α} (h : Apx d J w B e v xs) {b : Nat} {ds : List Value} (he : w' = setB w b ds e') (hb : b < B) : Apx d J w' B e v xs := he ▸ h.other hb ds
/-- The value of a flag, written out. -/
theorem Holds.known {N : Nat} {D : List Deferred} {a : Act} {l : Env} {t : Nat} {b c : Bool} (H : Holds N D a l) (hg : look l t = some (.bool c)) (e : c = b) : Holds N D a ((t, .bool b) :: l) := ⟨H.d, H.n, fun u x hx => by
    simp only [look] at hx
    cases hb : Nat.beq t u with
    | true => rw [hb] at hx; simp only [cond] at hx; injection hx with hx; subst hx; rw [← Nat.eq_of_beq_eq_true hb, ← e]; exact H.h t _ hg
    | false => rw [hb] at hx; simp only [cond] at hx; exact H.h u x hx⟩
/-- A new block, in a region that draws its order. -/
theorem OpOK.alloc {P : Program} {l : Env} {w : World} {d : Option Nat} {T : TypeId} {ty : TypeId} {pos : String} {af : Array Edge} {g : Option (Nat × Bool)} {z : Value} {cs : List Value} (hz : Zv P T z) (hc : z.cells = cs.toArray) :
    OpOK P l ⟨d, .alloc T, ty, pos, af, g⟩ w (fun v q w' => v = .pointer (some ⟨q.1, 0, none⟩) ∧ q.1 < q.2 ∧ Blk w' q.1 cs T) :=
  ⟨_, _, r_alloc hz, (Gr.refl _).alloc _, rfl, by simp, by rw [hc]; exact Blk.new _ _ _⟩
theorem Part.none {J K : Im} {q : Nat × Nat} {w : World} {b : Nat} (h : Part J q K w) (hJ : J b = Option.none) (hb : b < q.1 ∨ q.2 ≤ b) : K b = Option.none := by
  cases hk : K b with
  | none => rfl
  | some o => have := h.dom b hJ (by rw [hk]; simp); omega
theorem joinI_none {K L : Im} {b : Nat} (h1 : K b = none) (h2 : L b = none) : joinI K L b = none := by simp [joinI, h1, h2]
theorem New.part {I J L K : Im} {w0 w : World} {q : Nat × Nat} (h : New I w0 L w) (hL : Im.le J L) (hP : Part J q K w) (hq : w0.heap.size ≤ q.1) : New I w0 (joinI L K) w :=
  ⟨h.le.trans (joinI_left L K), joinI_sat h.sat hP.sat, h.gr, fun b hb => by
    have h1 := h.old b hb
    unfold joinI
    cases hl : L b with
    | some o => rw [hl] at h1; exact h1
    | none =>
      have hJ : J b = none := by
        cases hj : J b with
        | none => rfl
        | some o => rw [hL b o hj] at hl; cases hl
      rw [hl] at h1
      show K b = I b
      rw [← h1]
      exact hP.none hJ (.inl (by omega))⟩
theorem Sat.drewS {I : Im} {w : World} (h : Sat I w) : Sat I w.drew := h
/-- A block of numbers that is written no more. -/
theorem New.freezeInts {q : IntKind} {I J : Im} {w0 w : World} {b : Nat} {cs : List Value} {e : TypeId} {xs : List Int} (hN : New I w0 J w) (hB : Box J w b cs e) (hcs : cs = xs.map (Value.int q)) (hge : w0.heap.size ≤ b) (hl : xs.length ≤ 9223372036854775807) (hk : ∀ x ∈ xs, InK q x) :
    ∃ K, New I w0 K w ∧ Els (kInt q) K (some ⟨b, 0, none⟩) xs ∧ Im.le J K ∧ ∀ b', b' ≠ b → K b' = J b' := by
  subst hcs
  exact ⟨_, hN.freezeBox hB hge, Els.nums (Im.add_at _ _ _) hl hk, J.le_add _ hB.im, fun b' hb => by simp only [Im.add]; rw [if_neg hb]⟩
theorem Box.same {J K : Im} {w : World} {b : Nat} {cs : List Value} {e : TypeId} (h : Box J w b cs e) (hk : K b = J b) : Box K w b cs e := ⟨h.blk, hk.trans h.im⟩
theorem Els.two {α : Type} {d : Kd α} {J : Im} {b : Nat} {e : TypeId} {us vs : List Value} {x y : α} {fr : Nat × Nat} (hJ : J b = some (.cells (us ++ vs).toArray e fr)) (hx : d.rep J us x) (hy : d.rep J vs y) : Els d J (some ⟨b, 0, none⟩) [x, y] :=
  Els.row (vss := [us, vs]) (xs := [x, y]) (fr := fr) (e := e) (by simpa using hJ) (by simp) rfl (fun j x' hj => by
    match j, hj with
    | 0, hj => exact ⟨us, rfl, by simp at hj; subst hj; exact hx⟩
    | 1, hj => exact ⟨vs, rfl, by simp at hj; subst hj; exact hy⟩
    | j + 2, hj => simp at hj)
section
variable {r : Option Nat} {n : Nat} {P : Program} {ops : Array Oper} {Q : Exit → Act → World → Prop} {a : Act} {w : World} {rest : List Oper} {o : Oper} {N : Nat} {D : List Deferred} {l : Env} {t : Nat} {b : Bool}
/-- The guard was not carried out itself. -/
theorem wl_offu {g d : Nat} (H : Holds N D a l) (hd : o.dst = some t) (hgd : o.guard = some (g, b)) (hgt : (ops[g]?).bind (·.dst) = some d) (hlt : Nat.blt d N = true) (hg : look l d = some undef) (ht : Nat.blt t N = true)
    (k : ∀ a', Holds N D a' ((t, undef) :: l) → wpListIn (Fr r) n P ops Q rest a' w) : wpListIn (Fr r) n P ops Q (o :: rest) a w := by
  have hlt' : d < a.tmps.size := by rw [H.n]; simpa [Nat.blt_eq] using hlt
  have h1 := H.h d _ hg
  have e1 : ((ops[g]?).bind (·.dst)).bind (a.tmps[·]?) = some undef := by
    rw [hgt]
    simp only [Option.bind_some]
    rw [← h1]
    simp [Array.getD, hlt']
  have hy : yielded ops a.tmps g = none := by
    unfold yielded
    rw [e1]; rfl
  unfold wpListIn
  rw [if_neg (by simp [Region.wanted, hgd, hy])]
  refine ⟨fun _ _ => trivial, ?_⟩
  rw [hd]
  exact k _ (H.put ht undef)
end
end Go.Proofs.Ytjjpaghloaggeaa
