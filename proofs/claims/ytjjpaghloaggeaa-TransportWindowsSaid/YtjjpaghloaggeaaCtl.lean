/- Control: sequences, tests, blocks, loops, entering and leaving functions; no program. -/
import Derived.Test.YtjjpaghloaggeaaOps
set_option linter.unusedVariables false
set_option linter.unusedSimpArgs false
namespace Go.Proofs.Ytjjpaghloaggeaa
open Go.RowKit
section
variable {F : Fence} {n : Nat} {P : Program} {Q : Exit → Act → World → Prop} {K : Act → World → Prop} {a : Act} {w : World} {N : Nat} {D : List Deferred} {l l0 : Env} {ops : Array Oper} {i id : Nat} {b : Bool}
theorem th_n (h : K a w) : Exit.then K Q .normal a w := h
theorem th_x (h : Q (.exit i) a w) : Exit.then K Q (.exit i) a w := h
theorem th_r (h : Q .ret a w) : Exit.then K Q .ret a w := h
theorem bl_n (h : Q .normal a w) : Exit.inBlock id Q .normal a w := h
theorem bl_r (h : Q .ret a w) : Exit.inBlock id Q .ret a w := h
theorem bl_hit (h : Q .normal a w) : Exit.inBlock id Q (.exit id) a w := by simp only [Exit.inBlock, if_true]; exact h
theorem bl_miss (hne : Nat.beq i id = false) (h : Q (.exit i) a w) : Exit.inBlock id Q (.exit i) a w := by
  have hne' : ¬ i = id := fun e => by subst e; rw [Nat.beq_refl] at hne; cases hne
  simp only [Exit.inBlock, if_neg hne']; exact h
theorem w_cond {c : Operand} {x y : Code} (H : Holds N D a l) (hc : lk l c = some (.bool b)) (ht : b = true → x.wpIn F n P Q a w) (hf : b = false → y.wpIn F n P Q a w) : (Code.cond c x y).wpIn F n P Q a w :=
  wpIn_cond_split (H.ev c _ hc) ht hf
theorem w_tt {c : Operand} {x y : Code} (H : Holds N D a l) (hc : lk l c = some (.bool b)) (hb : b = true) (h : x.wpIn F n P Q a w) : (Code.cond c x y).wpIn F n P Q a w :=
  wpIn_cond_true (by rw [← hb]; exact H.ev c _ hc) h
theorem w_ff {c : Operand} {x y : Code} (H : Holds N D a l) (hc : lk l c = some (.bool b)) (hb : b = false) (h : y.wpIn F n P Q a w) : (Code.cond c x y).wpIn F n P Q a w :=
  wpIn_cond_false (by rw [← hb]; exact H.ev c _ hc) h
theorem least {R : Nat → Prop} (h : ∃ m, R m) : ∃ m, R m ∧ ∀ k, R k → m ≤ k := by
  obtain ⟨m, hm⟩ := h
  induction m using Nat.strongRecOn with
  | _ m ih =>
    by_cases h' : ∃ k, k < m ∧ R k
    · obtain ⟨k, hk, hR⟩ := h'
      exact ih k hk hR
    · refine ⟨m, hm, fun k hk => ?_⟩
      rcases Nat.lt_or_ge k m with h1 | h1
      · exact absurd ⟨k, h1, hk⟩ h'
      · exact h1
/-- A loop: what holds at its head, by a ghost. -/
theorem w_loop {ι : Type} {c : Code} (fr : ι → Env) (I : ι → World → Prop) (μ : ι → Nat) (x0 : ι) (H : Holds N D a l) (hs : Sub l (fr x0 ++ l0)) (h0 : I x0 w)
    (round : ∀ x a w, Holds N D a (fr x ++ l0) → I x w → c.wpIn F n P (Exit.then (fun a' w' => ∃ x', μ x' < μ x ∧ Holds N D a' (fr x' ++ l0) ∧ I x' w') Q) a w) : (Code.loop c).wpIn F n P Q a w := by
  classical
  let R : Nat → Act → World → Prop := fun m a w => ∃ x, μ x = m ∧ Holds N D a (fr x ++ l0) ∧ I x w
  let M : Act → World → Nat := fun a w => if h : ∃ m, R m a w then Classical.choose (least h) else 0
  have hM : ∀ m a w, R m a w → M a w ≤ m := fun m a w h => by
    show (if h : ∃ m, R m a w then Classical.choose (least h) else 0) ≤ m
    rw [dif_pos ⟨m, h⟩]
    exact (Classical.choose_spec (least (R := fun m => R m a w) ⟨m, h⟩)).2 m h
  refine wpIn_loop (fun a w => ∃ m, R m a w) M ⟨_, x0, rfl, H.sub hs, h0⟩ ?_
  intro a w hI
  have e : M a w = Classical.choose (least (R := fun m => R m a w) hI) := dif_pos hI
  obtain ⟨x, hx, hH, hIx⟩ := (Classical.choose_spec (least (R := fun m => R m a w) hI)).1
  refine wpIn_mono (round x a w hH hIx) ?_
  intro e' a' w' hq
  cases e' with
  | normal =>
    obtain ⟨x', hlt, hH', hI'⟩ := hq
    have hr : R (μ x') a' w' := ⟨x', rfl, hH', hI'⟩
    exact ⟨⟨_, hr⟩, by have := hM _ _ _ hr; omega⟩
  | exit i => exact hq
  | goto i => exact hq
  | ret => exact hq
  | panic ch => exact hq
  | outgrown => exact hq
/-- A piece of code behind which the ways meet again. -/
theorem w_meet {ι : Type} {x y : Code} (fr : ι → Env) (I : ι → World → Prop) (h1 : x.wpIn F n P (Exit.then (fun a' w' => ∃ j, Holds N D a' (fr j ++ l0) ∧ I j w') Q) a w)
    (h2 : ∀ j a w, Holds N D a (fr j ++ l0) → I j w → y.wpIn F n P Q a w) : (Code.seq x y).wpIn F n P Q a w :=
  wpIn_seq (wpIn_mono h1 (fun e' a' w' hq => by
    cases e' with
    | normal => obtain ⟨j, hH, hI⟩ := hq; exact h2 j a' w' hH hI
    | exit i => exact hq
    | goto i => exact hq
    | ret => exact hq
    | panic ch => exact hq
    | outgrown => exact hq))
theorem w_if {c : Operand} {x y : Code} {p : Prop} [Decidable p] (H : Holds N D a l) (hc : lk l c = some (.bool (decide p))) (ht : p → x.wpIn F n P Q a w) (hf : ¬ p → y.wpIn F n P Q a w) : (Code.cond c x y).wpIn F n P Q a w :=
  w_cond H hc (fun h => ht (of_decide_eq_true h)) (fun h => hf (of_decide_eq_false h))
theorem w_ift {c : Operand} {x y : Code} {p : Prop} [Decidable p] (H : Holds N D a l) (hc : lk l c = some (.bool (decide p))) (hp : p) (h : x.wpIn F n P Q a w) : (Code.cond c x y).wpIn F n P Q a w := w_tt H hc (decide_eq_true hp) h
theorem w_iff {c : Operand} {x y : Code} {p : Prop} [Decidable p] (H : Holds N D a l) (hc : lk l c = some (.bool (decide p))) (hp : ¬ p) (h : y.wpIn F n P Q a w) : (Code.cond c x y).wpIn F n P Q a w := w_ff H hc (decide_eq_false hp) h
/-- A region. -/
theorem w_reg {os : List Oper} {rid : Nat} (h : wpListIn F n P os.toArray Q os a w) : (Code.region rid os.toArray false).wpIn F n P Q a w := wpIn_region_lit h
theorem wl_end (h : Q .normal a w) : wpListIn F n P ops Q [] a w := h
end
section
variable {P : Program} {a : Act} {w : World} {N : Nat} {D : List Deferred} {l : Env}
abbrev Post (P : Program) (fn : Func) (R : Value → World → Prop) : Exit → Act → World → Prop := bodyPost P fn (fun e w' => ∃ v, e = .returned v ∧ R v w')
theorem ret_of {f : FuncId} {fn : Func} {c : Code} {args : List Value} {R : Value → World → Prop} (hf : P.funcs[f]? = some fn) (hb : fn.body = some c) (hn : Nat.ble args.length fn.ntmps = true) (hN : fn.ntmps = N)
    (h : ∀ a, Holds N [] a (argsEnv 0 args) → c.wpIn (Fr none) 0 P (Post P fn R) a w) : Ret P f args w R := by
  subst hN
  have hn' : args.length ≤ fn.ntmps := by simpa using hn
  refine (callsIn_wide (n := 0)).1 (callsIn_of_wp hf hb trivial (h _ ?_))
  rw [List.size_toArray]
  exact Holds.args (by omega)
theorem fin_r {fn : Func} {R : Value → World → Prop} {v : Value} (H : Holds N [] a l) (hr : (results fn a.tmps).run P w = .ok v w) (hR : R v w) : Post P fn R .ret a w := ⟨H.d, v, hr, v, rfl, hR⟩
theorem fin_n {fn : Func} {R : Value → World → Prop} {v : Value} (H : Holds N [] a l) (hr : (results fn a.tmps).run P w = .ok v w) (hR : R v w) : Post P fn R .normal a w := ⟨H.d, v, hr, v, rfl, hR⟩
theorem res1 {fn : Func} {t : Nat} {v : Value} (hr : fn.results = #[.tmp t]) (H : Holds N D a l) (hv : look l t = some v) : (results fn a.tmps).run P w = .ok v w := by
  rw [results_tmp hr, H.h t v hv]
theorem res0 {fn : Func} (hr : fn.results = #[]) : (results fn a.tmps).run P w = .ok (.tuple #[]) w := results_none hr _ _ _
theorem res2 {fn : Func} {t u : Nat} {v x : Value} (hr : fn.results = #[.tmp t, .tmp u]) (H : Holds N D a l) (hv : look l t = some v) (hx : look l u = some x) : (results fn a.tmps).run P w = .ok (.tuple #[v, x]) w := by
  rw [results_tmp2 hr, H.h t v hv, H.h u x hx]
theorem res3 {fn : Func} {t u s : Nat} {v x y : Value} (hr : fn.results = #[.tmp t, .tmp u, .tmp s]) (H : Holds N D a l) (hv : look l t = some v) (hx : look l u = some x) (hy : look l s = some y) : (results fn a.tmps).run P w = .ok (.tuple #[v, x, y]) w := by
  have h1 := H.h t v hv
  have h2 := H.h u x hx
  have h3 := H.h s y hy
  rw [Array.getD_eq_getD_getElem?] at h1 h2 h3
  simp [results, hr, h1, h2, h3, go_sem]
end
section
variable {r : Option Nat} {n : Nat} {P : Program} {ops : Array Oper} {Q : Exit → Act → World → Prop} {a : Act} {w w' : World} {rest : List Oper} {o : Oper} {N : Nat} {D : List Deferred} {l : Env} {t : Nat} {v : Value} {b c : Bool}
/-- A guard is looked at: both ways. -/
theorem wl_split (H : Holds N D a l) (hg : look l t = some (.bool c)) (ht : c = true → Holds N D a ((t, .bool true) :: l) → wpListIn (Fr r) n P ops Q rest a w) (hf : c = false → Holds N D a ((t, .bool false) :: l) → wpListIn (Fr r) n P ops Q rest a w) : wpListIn (Fr r) n P ops Q rest a w := by
  have key : ∀ d, c = d → Holds N D a ((t, .bool d) :: l) := fun d e => ⟨H.d, H.n, fun u x hx => by
    simp only [look] at hx
    cases hb : Nat.beq t u with
    | true => rw [hb] at hx; simp only [cond] at hx; injection hx with hx; subst hx; rw [← Nat.eq_of_beq_eq_true hb, ← e]; exact H.h t _ hg
    | false => rw [hb] at hx; simp only [cond] at hx; exact H.h u x hx⟩
  cases hc : c with
  | true => exact ht hc (key true hc)
  | false => exact hf hc (key false hc)
theorem yielded_of {g : Nat} (H : Holds N D a l) (ht : Nat.blt t N = true) (hd : (ops[g]?).bind (·.dst) = some t) (hg : look l t = some (.bool c)) : yielded ops a.tmps g = some c := by
  have hlt : t < a.tmps.size := by rw [H.n]; simpa [Nat.blt_eq] using ht
  have h1 := H.h t _ hg
  have e1 : ((ops[g]?).bind (·.dst)).bind (a.tmps[·]?) = some (.bool c) := by
    rw [hd]
    simp only [Option.bind_some]
    rw [← h1]
    simp [Array.getD, hlt]
  unfold yielded
  rw [e1]
theorem wl1g {g d : Nat} (H : Holds N D a l) (hr : Run1 P l o w v w') (hd : o.dst = some t) (hgd : o.guard = some (g, b)) (hgt : (ops[g]?).bind (·.dst) = some d) (hlt : Nat.blt d N = true) (hg : look l d = some (.bool b)) (hc : calm o.op = true) (ht : Nat.blt t N = true)
    (k : ∀ a', Holds N D a' ((t, v) :: l) → wpListIn (Fr r) n P ops Q rest a' w') : wpListIn (Fr r) n P ops Q (o :: rest) a w := by
  unfold wpListIn
  rw [if_pos (by simp [Region.wanted, hgd, yielded_of H hlt hgt hg])]
  refine ⟨fun _ _ => trivial, ?_⟩
  rw [semAt_calm hc, hr _ H.ev, Oper.uponIn_value, hd]
  exact k _ (H.put ht v)
theorem wl_off {g d : Nat} (H : Holds N D a l) (hd : o.dst = some t) (hgd : o.guard = some (g, b)) (hgt : (ops[g]?).bind (·.dst) = some d) (hlt : Nat.blt d N = true) (hg : look l d = some (.bool (!b))) (ht : Nat.blt t N = true)
    (k : ∀ a', Holds N D a' ((t, undef) :: l) → wpListIn (Fr r) n P ops Q rest a' w) : wpListIn (Fr r) n P ops Q (o :: rest) a w := by
  unfold wpListIn
  rw [if_neg (by simp [Region.wanted, hgd, yielded_of H hlt hgt hg])]
  refine ⟨fun _ _ => trivial, ?_⟩
  rw [hd]
  exact k _ (H.put ht undef)
theorem wlcg {g d : Nat} {f : FuncId} {x : Operand} {xs : List Operand} {ts : Array TypeId} {ty : TypeId} {pos : String} {af : Array Edge} {vs : List Value} {first capt : List Value} {R : Value → World → Prop}
    (H : Holds N D a l) (hgt : (ops[g]?).bind (·.dst) = some d) (hlt : Nat.blt d N = true) (hg : look l d = some (.bool b)) (hx : lk l x = some (.func (.func f) first.toArray capt.toArray)) (hxs : lks l xs = some vs) (hb : HasBody P f) (ht : Nat.blt t N = true)
    (hc : Ret P f (first ++ vs ++ capt) w R)
    (k : ∀ v w', R v w' → ∀ a', Holds N D a' ((t, v) :: l) → wpListIn (Fr r) n P ops Q rest a' w') :
    wpListIn (Fr r) n P ops Q (⟨some t, .call { callee := .value x, args := xs.toArray, argTypes := ts }, ty, pos, af, some (g, b)⟩ :: rest) a w := by
  unfold wpListIn
  rw [if_pos (by simp [Region.wanted, yielded_of H hlt hgt hg])]
  refine ⟨fun _ _ => trivial, ?_⟩
  rw [semAt_calm rfl]
  have h1 := H.ev x _ hx
  have h2 := H.ev.list xs vs hxs
  have h3 : (execOp a.eval ⟨some t, .call { callee := .value x, args := xs.toArray, argTypes := ts }, ty, pos, af, some (g, b)⟩).run P w = .ok (.enter f (first ++ vs ++ capt).toArray) w := by
    simp only [execOp, resolve, h1, Deferred.ofValue, Sem.run_bind, Sem.run_pure, Result.andThen_ok, invoke]
    rw [← hb (first ++ vs ++ capt).toArray w]
    congr 2
    simp [h2]
  rw [h3, Oper.uponIn_enter]
  refine ⟨(fun hd => (by cases hd)), CallsIn.Fr (Calls.mono hc ?_) r _⟩
  rintro e w' ⟨u, rfl, hu⟩
  exact k u w' hu _ (H.put ht u)
end
end Go.Proofs.Ytjjpaghloaggeaa
