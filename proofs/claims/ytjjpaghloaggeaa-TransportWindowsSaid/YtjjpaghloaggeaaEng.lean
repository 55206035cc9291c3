/- A walk over frames that are known slot by slot: environments, one operation at a time; no program. -/
import Derived.Test.YtjjpaghloaggeaaBase
import Derived.CallsIn
import Derived.TacticsIn
import Derived.RangeFuncCalls
set_option linter.unusedVariables false
set_option linter.unusedSimpArgs false
namespace Go.Proofs.Ytjjpaghloaggeaa
open Go.RowKit

/-! ### Environments -/
abbrev Env := List (Nat × Value)
def look : Env → Nat → Option Value
  | [], _ => none
  | (k, v) :: r, t => cond (Nat.beq k t) (some v) (look r t)
def lk (l : Env) : Operand → Option Value
  | .tmp t => look l t
  | .const v => some v
  | .global g => some (.pointer (some ⟨g, 0, none⟩))
  | .func f => some (.func (.func f) #[] #[])
def lks (l : Env) : List Operand → Option (List Value)
  | [] => some []
  | x :: xs => match lk l x, lks l xs with | some v, some vs => some (v :: vs) | _, _ => none
structure Holds (N : Nat) (D : List Deferred) (a : Act) (l : Env) : Prop where
  d : a.defers = D
  n : a.tmps.size = N
  h : ∀ t v, look l t = some v → a.tmps.getD t undef = v
def Ev (l : Env) (ev : Operand → Value) : Prop := ∀ x v, lk l x = some v → ev x = v
theorem Holds.ev {N : Nat} {D : List Deferred} {a : Act} {l : Env} (H : Holds N D a l) : Ev l a.eval := by
  intro x v hx
  cases x with
  | tmp t => exact H.h t v hx
  | const u => simp only [lk] at hx; injection hx
  | global g => simp only [lk] at hx; injection hx
  | func f => simp only [lk] at hx; injection hx
theorem Ev.list {l : Env} {ev : Operand → Value} (h : Ev l ev) : ∀ (xs : List Operand) (vs : List Value), lks l xs = some vs → xs.map ev = vs
  | [], vs, e => by cases e; rfl
  | x :: xs, vs, e => by
    simp only [lks] at e
    split at e
    · rename_i v us h1 h2
      injection e with e
      subst e
      rw [List.map_cons, h x v h1, Ev.list h xs us h2]
    · cases e
theorem Holds.put {N : Nat} {D : List Deferred} {a : Act} {l : Env} (H : Holds N D a l) {t : Nat} (ht : Nat.blt t N = true) (v : Value) : Holds N D (a.put (some t) v) ((t, v) :: l) := by
  have hlt : t < a.tmps.size := by rw [H.n]; simpa [Nat.blt_eq] using ht
  refine ⟨H.d, by simp [Act.put, H.n], ?_⟩
  intro u x hx
  simp only [look] at hx
  by_cases e : t = u
  · subst e
    rw [show Nat.beq t t = true from Nat.beq_refl t] at hx
    simp only [cond] at hx
    injection hx with hx
    subst hx
    simp [Act.put, Array.getD, hlt]
  · rw [show Nat.beq t u = false from by
      cases hb : Nat.beq t u with
      | false => rfl
      | true => exact absurd (Nat.eq_of_beq_eq_true hb) e] at hx
    simp only [cond] at hx
    have := H.h u x hx
    rw [← this]
    simp [Act.put, Array.getD, Array.getElem?_setIfInBounds, e]
    by_cases hu : u < a.tmps.size
    · simp [hu, Array.getElem_setIfInBounds, e]
    · simp [hu]
theorem Holds.put0 {N : Nat} {D : List Deferred} {a : Act} {l : Env} (H : Holds N D a l) (v : Value) : Holds N D (a.put none v) l := H
/-- What another environment knows, this one knows. -/
def Sub (l : Env) : Env → Prop
  | [] => True
  | (t, v) :: r => look l t = some v ∧ Sub l r
theorem Sub.look {l : Env} : ∀ (r : Env) (h : Sub l r) (t : Nat) (v : Value), look r t = some v → Go.Proofs.Ytjjpaghloaggeaa.look l t = some v
  | [], _, t, v, e => by cases e
  | (k, u) :: r, h, t, v, e => by
    simp only [Go.Proofs.Ytjjpaghloaggeaa.look] at e
    cases hb : Nat.beq k t with
    | true =>
      rw [hb] at e
      simp only [cond] at e
      injection e with e
      subst e
      rw [← Nat.eq_of_beq_eq_true hb]; exact h.1
    | false =>
      rw [hb] at e
      simp only [cond] at e
      exact Sub.look r h.2 t v e
theorem Holds.sub {N : Nat} {D : List Deferred} {a : Act} {l r : Env} (H : Holds N D a l) (h : Sub l r) : Holds N D a r := ⟨H.d, H.n, fun t v e => H.h t v (h.look r t v e)⟩
theorem Holds.start {args : Array Value} {n N : Nat} {l : Env} (hn : args.size + n = N) (h : ∀ t v, look l t = some v → (args ++ Array.replicate n undef).getD t undef = v) : Holds N [] { tmps := args ++ Array.replicate n undef, defers := [] } l :=
  ⟨rfl, by simp [hn], h⟩
/-- The arguments, from slot k on. -/
def argsEnv : Nat → List Value → Env
  | _, [] => []
  | k, v :: vs => (k, v) :: argsEnv (k + 1) vs
theorem look_args : ∀ (vs : List Value) (k t : Nat) (v : Value), look (argsEnv k vs) t = some v → k ≤ t ∧ vs[t - k]? = some v
  | [], k, t, v, e => by cases e
  | u :: us, k, t, v, e => by
    simp only [argsEnv, look] at e
    cases hb : Nat.beq k t with
    | true =>
      rw [hb] at e
      simp only [cond] at e
      injection e with e
      subst e
      have := Nat.eq_of_beq_eq_true hb
      subst this
      simp
    | false =>
      rw [hb] at e
      simp only [cond] at e
      obtain ⟨h1, h2⟩ := look_args us (k + 1) t v e
      refine ⟨by omega, ?_⟩
      rw [show t - k = (t - (k + 1)) + 1 from by omega]
      simpa using h2
theorem Holds.args {vs : List Value} {n N : Nat} (hn : vs.length + n = N) : Holds N [] { tmps := vs.toArray ++ Array.replicate n undef, defers := [] } (argsEnv 0 vs) := by
  refine Holds.start (by simpa using hn) ?_
  intro t v e
  obtain ⟨_, h2⟩ := look_args vs 0 t v e
  simp only [Nat.sub_zero] at h2
  have hlt := (List.getElem?_eq_some_iff.1 h2).1
  have he := (List.getElem?_eq_some_iff.1 h2).2
  simp [Array.getD, Array.getElem_append, hlt, he]
  omega

/-! ### The fence of this walk: wide, in a round or not -/
def Fr (r : Option Nat) : Fence := { Fence.wide with round := r }
theorem Fr_none : Fr none = Fence.wide := rfl
theorem Fr_some (l : Nat) : Fr (some l) = Fence.wide.inRound l := rfl

/-! ### One operation -/
/-- In every frame that knows l, operation o yields v and leaves w'. -/
def Run1 (P : Program) (l : Env) (o : Oper) (w : World) (v : Value) (w' : World) : Prop := ∀ ev, Ev l ev → (execOp ev o).run P w = .ok (.value v) w'
/-- The same for an operation that yields nothing. -/
def Run0 (P : Program) (l : Env) (o : Oper) (w w' : World) : Prop := ∀ ev, Ev l ev → (execOp ev o).run P w = .ok .skip w'
def calm : Op → Bool
  | .defer _ => false
  | _ => true
theorem semAt_calm {r : Option Nat} {ev : Operand → Value} {o : Oper} (h : calm o.op = true) : Oper.semAt r ev o = execOp ev o := by
  refine Oper.semAt_eq r ev o (fun c hc => ?_)
  rw [hc] at h
  cases h
section
variable {r : Option Nat} {n : Nat} {P : Program} {ops : Array Oper} {Q : Exit → Act → World → Prop} {a : Act} {w w' : World} {rest : List Oper} {o : Oper} {N : Nat} {D : List Deferred} {l : Env} {t : Nat} {v : Value}
theorem wantedNone (h : o.guard = none) : Region.wanted o (yielded ops a.tmps) = true := by simp [Region.wanted, h]
theorem wl1 (H : Holds N D a l) (hr : Run1 P l o w v w') (hd : o.dst = some t) (hg : o.guard = none) (hc : calm o.op = true) (ht : Nat.blt t N = true)
    (k : ∀ a', Holds N D a' ((t, v) :: l) → wpListIn (Fr r) n P ops Q rest a' w') : wpListIn (Fr r) n P ops Q (o :: rest) a w := by
  unfold wpListIn
  rw [if_pos (wantedNone hg)]
  refine ⟨fun _ _ => trivial, ?_⟩
  rw [semAt_calm hc, hr _ H.ev, Oper.uponIn_value, hd]
  exact k _ (H.put ht v)
/-- An operation whose value nothing reads by name: its slot is written all the same. -/
theorem wl0 (H : Holds N D a l) (hr : Run0 P l o w w') (hd : o.dst = none) (hg : o.guard = none) (hc : calm o.op = true)
    (k : Holds N D a l → wpListIn (Fr r) n P ops Q rest a w') : wpListIn (Fr r) n P ops Q (o :: rest) a w := by
  unfold wpListIn
  rw [if_pos (wantedNone hg)]
  refine ⟨fun _ _ => trivial, ?_⟩
  rw [semAt_calm hc, hr _ H.ev, Oper.uponIn_skip, hd]
  exact k H
/-- A call: what it hands back and leaves satisfies R. -/
def Ret (P : Program) (f : FuncId) (args : List Value) (w : World) (R : Value → World → Prop) : Prop :=
  Calls P f args.toArray w fun e w' => ∃ v, e = .returned v ∧ R v w'
theorem Ret.mono {f : FuncId} {args : List Value} {R R' : Value → World → Prop} (h : Ret P f args w R) (hr : ∀ v w', R v w' → R' v w') : Ret P f args w R' :=
  Calls.mono h fun e w' ⟨v, he, hv⟩ => ⟨v, he, hr v w' hv⟩
/-- The function's number leads to a function with a body. -/
def HasBody (P : Program) (f : FuncId) : Prop := ∀ args w, (callFunc f args).run P w = .ok (.enter f args) w
theorem hasBody_of {f : FuncId} {fn : Func} (hf : P.funcs[f]? = some fn) (h1 : (fn.name == "runtime.NumGoroutine") = false) (h2 : fn.body.isNone = false) : HasBody P f := by
  intro args w
  have h1' : ¬ fn.name = "runtime.NumGoroutine" := by simpa using h1
  have h2' : ¬ fn.body = none := by intro e; rw [e] at h2; cases h2
  simp [callFunc, hf, h1', h2', Sem.run_bind, Sem.run_pure, go_sem]
theorem CallsIn.Fr {f : FuncId} {args : Array Value} {R : Ending → World → Prop} (h : Calls P f args w R) (r : Option Nat) (n : Nat) : CallsIn (Fr r) n P f args w R := (callsIn_wide (n := n)).2 h
theorem wlc {f : FuncId} {x : Operand} {xs : List Operand} {ts : Array TypeId} {ty : TypeId} {pos : String} {af : Array Edge} {vs : List Value} {first capt : List Value} {R : Value → World → Prop}
    (H : Holds N D a l) (hx : lk l x = some (.func (.func f) first.toArray capt.toArray)) (hxs : lks l xs = some vs) (hb : HasBody P f) (ht : Nat.blt t N = true)
    (hc : Ret P f (first ++ vs ++ capt) w R)
    (k : ∀ v w', R v w' → ∀ a', Holds N D a' ((t, v) :: l) → wpListIn (Fr r) n P ops Q rest a' w') :
    wpListIn (Fr r) n P ops Q (⟨some t, .call { callee := .value x, args := xs.toArray, argTypes := ts }, ty, pos, af, none⟩ :: rest) a w := by
  unfold wpListIn
  rw [if_pos (wantedNone rfl)]
  refine ⟨fun _ _ => trivial, ?_⟩
  rw [semAt_calm rfl]
  have h1 := H.ev x _ hx
  have h2 := H.ev.list xs vs hxs
  have h3 : (execOp a.eval ⟨some t, .call { callee := .value x, args := xs.toArray, argTypes := ts }, ty, pos, af, none⟩).run P w = .ok (.enter f (first ++ vs ++ capt).toArray) w := by
    simp only [execOp, resolve, h1, Deferred.ofValue, Sem.run_bind, Sem.run_pure, Result.andThen_ok, invoke]
    rw [← hb (first ++ vs ++ capt).toArray w]
    congr 2
    simp [h2]
  rw [h3, Oper.uponIn_enter]
  refine ⟨(fun hd => (by cases hd)), CallsIn.Fr (Calls.mono hc ?_) r _⟩
  rintro e w' ⟨u, rfl, hu⟩
  exact k u w' hu _ (H.put ht u)
/-- A call whose value is dropped. -/
theorem wlc0 {f : FuncId} {x : Operand} {xs : List Operand} {ts : Array TypeId} {ty : TypeId} {pos : String} {af : Array Edge} {vs : List Value} {first capt : List Value} {R : Value → World → Prop}
    (H : Holds N D a l) (hx : lk l x = some (.func (.func f) first.toArray capt.toArray)) (hxs : lks l xs = some vs) (hb : HasBody P f)
    (hc : Ret P f (first ++ vs ++ capt) w R)
    (k : ∀ v w', R v w' → Holds N D a l → wpListIn (Fr r) n P ops Q rest a w') :
    wpListIn (Fr r) n P ops Q (⟨none, .call { callee := .value x, args := xs.toArray, argTypes := ts }, ty, pos, af, none⟩ :: rest) a w := by
  unfold wpListIn
  rw [if_pos (wantedNone rfl)]
  refine ⟨fun _ _ => trivial, ?_⟩
  rw [semAt_calm rfl]
  have h1 := H.ev x _ hx
  have h2 := H.ev.list xs vs hxs
  have h3 : (execOp a.eval ⟨none, .call { callee := .value x, args := xs.toArray, argTypes := ts }, ty, pos, af, none⟩).run P w = .ok (.enter f (first ++ vs ++ capt).toArray) w := by
    simp only [execOp, resolve, h1, Deferred.ofValue, Sem.run_bind, Sem.run_pure, Result.andThen_ok, invoke]
    rw [← hb (first ++ vs ++ capt).toArray w]
    congr 2
    simp [h2]
  rw [h3, Oper.uponIn_enter]
  refine ⟨(fun hd => (by cases hd)), CallsIn.Fr (Calls.mono hc ?_) r _⟩
  rintro e w' ⟨u, rfl, hu⟩
  exact k u w' hu H
end
end Go.Proofs.Ytjjpaghloaggeaa
