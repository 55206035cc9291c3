/- Contract of climb. -/
import Derived.Test.YtlikefnngkokhaaPath
set_option linter.unusedVariables false
set_option linter.unusedSimpArgs false
namespace Go.Proofs.Ytlikefnngkokhaa
open Go.RowKit
def ClimbPost (n i : Nat) (h : Int) (p : List Int) (w : World) (e : Ending) (w' : World) : Prop :=
  e = .returned (.tuple #[.int .u64 (dclimb n i h p).1, .bool (dclimb n i h p).2]) ∧ Gr w w'
set_option maxHeartbeats 400000 in
theorem climb_any (d : Nat) : ∀ (n i : Nat) (h : Int) (A : Option Addr) (p : List Int) (c : Nat) (w : World) (hd : n ≤ d) (hn : 1 ≤ n) (hi : i < n) (hl : n ≤ 1048576) (hcap : p.length ≤ c) (hr : Rd w .u64 A p),
    Calls Try.prog 36 #[.int .i64 n, .int .i64 i, .int .u64 h, .slice A p.length c] w (ClimbPost n i h p w) := by
  induction d with
  | zero => intro n i h A p c w hd hn hi hl hcap hr; omega
  | succ d ih =>
    intro n i h A p c w hd hn hi hl hcap hr
    by_cases h1 : n = 1
    · subst h1
      have hlen := hr.len
      clear ih hr hcap hl hd hn
      go_enter Try.func36, Try.ntmps36
      go_wp2
      go_ret2
      exact ⟨by rw [dclimb_one, isEmpty_eq]; rfl, Gr.refl _⟩
    have hb1 : ((n : Int) == 1) = false := by simp; omega
    by_cases hp : p = []
    · subst hp
      have HN := Lib.hid h1
      clear ih hr hcap hl hd h1
      go_enter Try.func36, Try.ntmps36
      go_wp2
      go_ret2
      exact ⟨by rw [dclimb_nil (by have := HN.out; omega)]; rfl, Gr.refl _⟩
    obtain ⟨q, x, rfl⟩ : ∃ q x, p = q ++ [x] := ⟨p.dropLast, p.getLast hp, (List.dropLast_concat_getLast hp).symm⟩
    rw [List.length_append, List.length_singleton] at hcap ⊢
    have hb2 : ((q.length : Int) + 1 == 0) = false := by simp; omega
    obtain ⟨hk1, hk2, hk3⟩ := dhalf_spec (n := n) (by omega)
    obtain ⟨ad, rfl, hc⟩ := hr.2 (by simp)
    have hlen : q.length < 9223372036854775807 := by have := hr.len; simp at this; omega
    have hx : w.cell? (ad.add q.length) = some (.int .u64 x) := by rw [hc _ (by simp)]; simp
    have hrd : Rd w .u64 (some ad) q := by have := hr.take q.length; simpa using this
    have hcap' : (q.length : Int) ≤ (c : Int) := by omega
    have IH := Lib.hid ih
    clear ih hc hr hp h1
    by_cases hlt : i < dhalf n
    · have C1 := IH.out (dhalf n) i h (some ad) q c w (by omega) (by omega) (by omega) (by omega) (by omega) hrd
      have hfin := dclimb_left (n := n) (by omega) hlt h q x
      have HF := Lib.hid hfin
      have HC1 := Lib.hid C1
      clear hfin C1
      go_enter Try.func36, Try.ntmps36
      go_wp2_with (first
        | (go_at_call 31; go_must (refine (half_any n (by omega) _).mono ?_; rintro e w' ⟨rfl, rfl⟩))
        | (go_at_call 36; go_must (refine HC1.out.mono ?_; rintro e w1 ⟨rfl, hg1⟩; have hx1 := hg1.cell hx; have HG1 := Lib.hid hg1; clear hg1))
        | (go_at_call 21; go_must (refine (join_any _ _ _).mono ?_; rintro e w2 ⟨rfl, hg2⟩; have HG2 := Lib.hid hg2; clear hg2)))
      go_ret2
      exact ⟨by rw [HF.out]; rfl, HG1.out.trans HG2.out⟩
    · have hI0 : (dhalf n : Int) ≤ (i : Int) := by omega
      have hI1 : (dhalf n : Int) ≤ (n : Int) := by omega
      have e1 : ((n - dhalf n : Nat) : Int) = (n : Int) - (dhalf n : Int) := by omega
      have e2 : ((i - dhalf n : Nat) : Int) = (i : Int) - (dhalf n : Int) := by omega
      have C1 := IH.out (n - dhalf n) (i - dhalf n) h (some ad) q c w (by omega) (by omega) (by omega) (by omega) (by omega) hrd
      rw [e1, e2] at C1
      have hfin := dclimb_right (n := n) (by omega) hlt h q x
      have HF := Lib.hid hfin
      have HC1 := Lib.hid C1
      clear hfin C1 e1 e2
      go_enter Try.func36, Try.ntmps36
      go_wp2_with (first
        | (go_at_call 31; go_must (refine (half_any n (by omega) _).mono ?_; rintro e w' ⟨rfl, rfl⟩))
        | (go_at_call 36; go_must (refine HC1.out.mono ?_; rintro e w1 ⟨rfl, hg1⟩; have hx1 := hg1.cell hx; have HG1 := Lib.hid hg1; clear hg1))
        | (go_at_call 21; go_must (refine (join_any _ _ _).mono ?_; rintro e w2 ⟨rfl, hg2⟩; have HG2 := Lib.hid hg2; clear hg2)))
      go_ret2
      exact ⟨by rw [HF.out]; rfl, HG1.out.trans HG2.out⟩
end Go.Proofs.Ytlikefnngkokhaa
