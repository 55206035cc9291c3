/- Contracts of Check and Path and of the law helpers check and pathOf. -/
import Derived.Test.YtlikefnngkokhaaClimb
import Derived.Test.YtlikefnngkokhaaCheckPure
set_option linter.unusedVariables false
set_option linter.unusedSimpArgs false
namespace Go.Proofs.Ytlikefnngkokhaa
open Go.RowKit
theorem field_paths1 (x : Value) (n : Int) (w : World) : (Instr.field 29 (.agg #[x, .int .i64 n]) 1).run Try.prog w = .ok (.int .i64 n) w := by kernel_rfl
set_option maxHeartbeats 400000 in
theorem check_any (root n i dd : Int) (A : Option Addr) (p : List Int) (c : Nat) (w : World) (hcap : p.length ≤ c) (hr : Rd w .u64 A p) :
    Calls Try.prog 30 #[.int .u64 root, .int .i64 n, .agg #[.int .i64 i, .int .u64 dd], .slice A p.length c] w fun e w' => e = .returned (.int .i64 (dcheck root n i dd p)) ∧ Gr w w' := by
  by_cases h1 : n < 1
  · have hf : dcheck root n i dd p = 1 := if_pos (.inl h1)
    have HF := Lib.hid hf
    clear hf hr
    go_enter Try.func30, Try.ntmps30
    go_wp2
    go_ret
    exact ⟨by rw [HF.out]; rfl, (Gr.refl _).alloc _⟩
  by_cases h2 : 4096 < n
  · have hf : dcheck root n i dd p = 1 := if_pos (.inr (.inl h2))
    have HF := Lib.hid hf
    clear hf hr
    go_enter Try.func30, Try.ntmps30
    go_wp2
    go_ret
    exact ⟨by rw [HF.out]; rfl, (Gr.refl _).alloc _⟩
  by_cases h3 : i < 0
  · have hf : dcheck root n i dd p = 1 := if_pos (.inr (.inr (.inl h3)))
    have HF := Lib.hid hf
    clear hf hr
    go_enter Try.func30, Try.ntmps30
    go_wp2
    go_ret
    exact ⟨by rw [HF.out]; rfl, (Gr.refl _).alloc _⟩
  by_cases h4 : n ≤ i
  · have hf : dcheck root n i dd p = 1 := if_pos (.inr (.inr (.inr h4)))
    have HF := Lib.hid hf
    clear hf hr
    go_enter Try.func30, Try.ntmps30
    go_wp2
    go_ret
    exact ⟨by rw [HF.out]; rfl, (Gr.refl _).alloc _⟩
  obtain ⟨n, rfl⟩ := Int.eq_ofNat_of_zero_le (show 0 ≤ n by omega)
  obtain ⟨i, rfl⟩ := Int.eq_ofNat_of_zero_le (show 0 ≤ i by omega)
  have hf : dcheck root n i dd p = if dclimb n i dd p = (root, true) then 0 else 6 := by
    unfold dcheck
    rw [if_neg (by omega)]; rfl
  have C := fun w1 (hg : Gr w w1) => climb_any n n i dd A p c w1 (Nat.le_refl _) (by omega) (by omega) (by omega) hcap (hr.gr hg)
  obtain ⟨⟨x, b⟩, hxb⟩ : ∃ xb, dclimb n i dd p = xb := ⟨_, rfl⟩
  unfold ClimbPost at C
  rw [hxb] at hf C
  have HF := Lib.hid hf
  have HC := Lib.hid C
  clear hf hr C hxb
  cases b with
  | false =>
    go_enter Try.func30, Try.ntmps30
    go_wp2_with (go_at_call 36; go_must (refine (HC.out _ ((Gr.refl _).alloc _)).mono ?_; rintro e w1 ⟨rfl, hg1⟩; have HG1 := Lib.hid hg1; clear hg1))
    go_ret
    exact ⟨by rw [HF.out]; simp, ((Gr.refl _).alloc _).trans HG1.out⟩
  | true =>
    by_cases he : x = root
    · subst he
      go_enter Try.func30, Try.ntmps30
      go_wp2_with (go_at_call 36; go_must (refine (HC.out _ ((Gr.refl _).alloc _)).mono ?_; rintro e w1 ⟨rfl, hg1⟩; have HG1 := Lib.hid hg1; clear hg1))
      go_ret
      exact ⟨by rw [HF.out]; simp, ((Gr.refl _).alloc _).trans HG1.out⟩
    · have hb : (x != root) = true := by simpa using he
      go_enter Try.func30, Try.ntmps30
      go_wp2_with (go_at_call 36; go_must (refine (HC.out _ ((Gr.refl _).alloc _)).mono ?_; rintro e w1 ⟨rfl, hg1⟩; have HG1 := Lib.hid hg1; clear hg1))
      go_ret
      exact ⟨by rw [HF.out]; simp [he], ((Gr.refl _).alloc _).trans HG1.out⟩
set_option maxHeartbeats 400000 in
/-- The law's check: Check of a tree. -/
theorem lcheck_any (root n i dd : Int) (A : Option Addr) (p : List Int) (c : Nat) (w : World) (hcap : p.length ≤ c) (hr : Rd w .u64 A p) :
    Calls Try.prog 12 #[.int .u64 root, .agg #[.int .i64 n, .slice A p.length c], .agg #[.int .i64 i, .int .u64 dd]] w fun e w' => e = .returned (.int .i64 (dcheck root n i dd p)) ∧ Gr w w' := by
  have C := fun w1 (hg : Gr w w1) => check_any root n i dd A p c w1 hcap (hr.gr hg)
  have HC := Lib.hid C
  clear C hr
  go_enter Try.func12, Try.ntmps12
  go_wp2_with (go_at_call 30; go_must (refine (HC.out _ (((Gr.refl _).alloc _).alloc _)).mono ?_; rintro e w1 ⟨rfl, hg1⟩; have HG1 := Lib.hid hg1; clear hg1))
  go_ret
  exact ⟨rfl, (((Gr.refl _).alloc _).alloc _).trans HG1.out⟩

def PathRes (l : List Int) (i : Nat) (w : World) (e : Ending) (w' : World) : Prop := ∃ v, e = .returned (.tuple #[v, .int .i64 0]) ∧ Own w' w.heap.size 33 v (ints .u64 (dpath l i)) ∧ Gr w w'
set_option maxHeartbeats 400000 in
theorem Path_ok (A : Option Addr) (l : List Int) (c : Nat) (i : Nat) (w : World) (hl : l.length ≤ 1048576) (hcap : l.length ≤ c) (hi : i < l.length) (hr : Rd w .u64 A l) :
    Calls Try.prog 29 #[.slice A l.length c, .int .i64 i] w (PathRes l i w) := by
  have C := path_any l.length A l c i w (Nat.le_refl _) hl hcap hi hr
  have HC := Lib.hid C
  have hd1 : decide ((i : Int) < 0) = false := by simp
  have hd2 : decide ((i : Int) ≥ (l.length : Int)) = false := by simp; omega
  have hd3 : decide ((l.length : Int) ≤ (i : Int)) = false := by simp; omega
  have hd4 : decide (l.length ≤ i) = false := by simp; omega
  clear C hr hi
  go_enter Try.func29, Try.ntmps29
  go_wp2_with (go_at_call 35; go_must (refine HC.out.mono ?_; rintro e w1 ⟨v, rfl, ho, hg1⟩; have HO := Lib.hid ho; have HG1 := Lib.hid hg1; clear ho hg1))
  go_ret2
  exact ⟨v, rfl, HO.out, HG1.out⟩
set_option maxHeartbeats 400000 in
theorem Path_err (A : Option Addr) (n : Nat) (c : Nat) (i : Int) (w : World) (hi : i < 0 ∨ (n : Int) ≤ i) :
    Calls Try.prog 29 #[.slice A n c, .int .i64 i] w fun e w' => e = .returned (.tuple #[.slice none 0 0, .int .i64 1]) ∧ w = w' := by
  by_cases h0 : i < 0
  · go_enter Try.func29, Try.ntmps29
    clear hi
    go_wp2
    go_ret2
    exact ⟨rfl, rfl⟩
  · have h1 : (n : Int) ≤ i := by omega
    clear hi
    go_enter Try.func29, Try.ntmps29
    go_wp2
    go_ret2
    exact ⟨rfl, rfl⟩

def PathOfPost (l : List Int) (i : Nat) (w : World) (e : Ending) (w' : World) : Prop := ∃ v, e = .returned (.agg #[v, .int .i64 0]) ∧ Own w' w.heap.size 33 v (ints .u64 (dpath l i)) ∧ Gr w w'
set_option maxHeartbeats 400000 in
theorem pathOf_any (A : Option Addr) (l : List Int) (c : Nat) (i : Nat) (w : World) (hl : l.length ≤ 1048576) (hcap : l.length ≤ c) (hi : i < l.length) (hr : Rd w .u64 A l) :
    Calls Try.prog 11 #[.slice A l.length c, .int .i64 i] w (PathOfPost l i w) := by
  have C := fun w1 (hg : Gr w w1) => Path_ok A l c i w1 hl hcap hi (hr.gr hg)
  have HC := Lib.hid C
  clear C hr
  go_enter Try.func11, Try.ntmps11
  go_wp2_with (go_at_call 29; go_must (refine (HC.out _ ((Gr.refl _).alloc _)).mono ?_; rintro e w1 ⟨v, rfl, ho, hg1⟩; obtain ⟨A1, c1, hv, hc1⟩ := ho.slice; have hb := hg1.block (heap_new _ _); have hf := frozen_of_block (o := 0) hb; have hf1 := frozen_of_block (o := 1) hb; have hx0 := cell_row hb 0; have hx1 := cell_row hb 1; have HO := Lib.hid ho; have HG1 := Lib.hid hg1; subst hv; clear ho hg1 hc1 hb))
  refine bodyPost_ret (v := .agg #[.slice A1 (ints .u64 (dpath l i)).length c1, .int .i64 0]) (by simp [results, Try.results11, go_sem, hx0, hx1]) rfl ⟨_, rfl, ?_, ?_⟩
  · exact ((HO.out.lower ((Gr.refl _).alloc _).size).grown (grownBy_setCell _ _ _) (HO.out.block_ne (by simp))).grown (grownBy_setCell _ _ _) (HO.out.block_ne (by simp))
  · exact ((((Gr.refl _).alloc _).trans HG1.out).setCell (Nat.le_refl _) _).setCell (Nat.le_refl _) _
theorem pathOf_err (A : Option Addr) (n : Nat) (c : Nat) (i : Int) (w : World) (hi : i < 0 ∨ (n : Int) ≤ i) :
    Calls Try.prog 11 #[.slice A n c, .int .i64 i] w fun e w' => e = .returned (.agg #[.slice none 0 0, .int .i64 1]) ∧ Gr w w' := by
  have C := fun w1 => Path_err A n c i w1 hi
  have HC := Lib.hid C
  clear C
  go_enter Try.func11, Try.ntmps11
  go_wp2_with (go_at_call 29; go_must (refine (HC.out _).mono ?_; rintro e w1 ⟨rfl, rfl⟩))
  exact bodyPost_ret (v := .agg #[.slice none 0 0, .int .i64 1]) (by simp [results, Try.results11, go_sem]) rfl ⟨rfl, (Gr.refl _).alloc _⟩
end Go.Proofs.Ytlikefnngkokhaa
