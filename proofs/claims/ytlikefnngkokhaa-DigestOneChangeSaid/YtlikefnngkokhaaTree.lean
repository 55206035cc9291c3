/- Contracts of half and Root. -/
import Derived.Test.YtlikefnngkokhaaDig
import Derived.Test.YtlikefnngkokhaaTreePure
set_option linter.unusedVariables false
set_option linter.unusedSimpArgs false
namespace Go.Proofs.Ytlikefnngkokhaa
open Go.RowKit

set_option maxHeartbeats 400000 in
theorem half_any (n : Nat) (hn : n ≤ 1152921504606846976) (w : World) :
    Calls Try.prog 31 #[.int .i64 n] w fun e w' => e = .returned (.int .i64 (dhalf n)) ∧ w = w' := by
  go_enter Try.func31, Try.ntmps31
  go_wp2
  go_loop [3] (fun i => ∃ k : Nat, 0 < k ∧ (k = 1 ∨ k < n) ∧ i = .int .i64 k ∧ Hid (halfGo k n = dhalf n)) (fun i => n - (intOf i).toNat)
  case atStart => exact ⟨1, by omega, .inl rfl, rfl, Lib.hid rfl⟩
  case round =>
    obtain ⟨k, h0, h1, rfl, HK⟩ := hrel
    have hk : k ≤ 1152921504606846976 := by omega
    by_cases hlt : 2 * k < n
    · have hlt' : 2 * (k : Int) < (n : Int) := by omega
      have HL := Lib.hid h1
      clear h1 hlt
      go_wp2
      go_round
      case rel => exact ⟨2 * k, by omega, .inr (by omega), by go_num, Lib.hid (by rw [← HK.out, halfGo_yes h0 (by omega)])⟩
      case measure => simp [intOf]; omega
    · have hlt' : ¬ 2 * (k : Int) < (n : Int) := by omega
      have HL := Lib.hid h1
      have hf := HK.out
      rw [halfGo_no hlt] at hf
      have HF := Lib.hid hf
      clear h1 hlt hf HK
      go_wp2
      go_ret
      exact ⟨by rw [← HF.out]; rfl, rfl⟩

set_option maxHeartbeats 400000 in
theorem root_any (d : Nat) : ∀ (A : Option Addr) (l : List Int) (c : Nat) (w : World) (hd : l.length ≤ d) (hl : l.length ≤ 1152921504606846976) (hcap : l.length ≤ c) (hr : Rd w .u64 A l),
    Calls Try.prog 13 #[.slice A l.length c] w fun e w' => e = .returned (.int .u64 (droot l)) ∧ Gr w w' := by
  have empty : ∀ (A : Option Addr) (c : Nat) (w : World), Calls Try.prog 13 #[.slice A ([] : List Int).length c] w fun e w' => e = .returned (.int .u64 (droot [])) ∧ Gr w w' := by
    intro A c w
    go_enter Try.func13, Try.ntmps13
    go_wp2_with (go_at_call 17; refine (words_any none [] 0 _ (Rd.nil _ _ _)).mono ?_; rintro e w' ⟨rfl, hg⟩)
    go_ret
    exact ⟨by rw [droot_nil]; rfl, by assumption⟩
  induction d with
  | zero =>
    intro A l c w hd hl hcap hr
    obtain rfl : l = [] := List.eq_nil_of_length_eq_zero (by omega)
    exact empty A c w
  | succ d ih =>
    intro A l c w hd hl hcap hr
    by_cases h0 : l.length = 0
    · obtain rfl : l = [] := List.eq_nil_of_length_eq_zero (by omega)
      exact empty A c w
    by_cases h1 : l.length = 1
    · obtain ⟨x, rfl⟩ := List.length_eq_one_iff.1 h1
      obtain ⟨ad, rfl, hc⟩ := hr.2 (by simp)
      have hx := hc 0 (by simp)
      rw [add_zero] at hx
      clear hc hr ih empty h0 h1
      go_enter Try.func13, Try.ntmps13
      go_wp2
      go_ret
      exact ⟨by rw [droot_one]; rfl, Gr.refl _⟩
    have hb0 : ((l.length : Int) == 0) = false := by simpa using h0
    have hb1 : ((l.length : Int) == 1) = false := by simp; omega
    obtain ⟨hk1, hk2, hk3⟩ := dhalf_spec (n := l.length) (by omega)
    have hI1 : (dhalf l.length : Int) ≤ (l.length : Int) := by omega
    have hI2 : (dhalf l.length : Int) ≤ (c : Int) := by omega
    have hcne : ¬ c = dhalf l.length := by omega
    obtain ⟨ad, rfl, hc⟩ := hr.2 (by omega)
    have IH := Lib.hid ih
    clear ih hc
    go_enter Try.func13, Try.ntmps13
    go_wp2_with (go_at_call 31; refine (half_any l.length hl _).mono ?_; rintro e w' ⟨rfl, rfl⟩)
    refine wp_region_quiet (C := fun W => Gr w W) (by kernel_rfl) (by kernel_rfl) ⟨⟨rfl, rfl, rfl, Nat.le_refl _, fun _ _ => rfl⟩⟩ ?_
    repeat (refine wpQuiet_step (fun K hK => ?_); go_simp; refine ⟨_, fun _ _ => rfl, hK _ ?_⟩; clear hK K)
    refine wpQuiet_step (fun K hK => ?_); go_simp
    refine ⟨.int .u64 (droot (l.take (dhalf l.length))), fun W hW => ?_, hK _ ?_⟩
    · have e1 : (l.take (dhalf l.length)).length = dhalf l.length := by simp; omega
      have C := IH.out (some ad) (l.take (dhalf l.length)) c W (by omega) (by omega) (by omega) ((hr.take _).gr hW)
      rw [e1] at C
      exact C.mono fun e w' h => ⟨h.1, hW.trans h.2⟩
    clear hK K
    repeat (refine wpQuiet_step (fun K hK => ?_); go_simp; refine ⟨_, fun _ _ => rfl, hK _ ?_⟩; clear hK K)
    refine wpQuiet_step (fun K hK => ?_); go_simp
    refine ⟨.int .u64 (droot (l.drop (dhalf l.length))), fun W hW => ?_, hK _ ?_⟩
    · have e1 : (l.drop (dhalf l.length)).length = l.length - dhalf l.length := by simp
      have C := IH.out (some (ad.add (dhalf l.length))) (l.drop (dhalf l.length)) (c - dhalf l.length) W (by omega) (by omega) (by omega) ((hr.drop _).gr hW)
      rw [e1] at C
      exact C.mono fun e w' h => ⟨h.1, hW.trans h.2⟩
    clear hK K
    refine wpQuiet_step (fun K hK => ?_); go_simp
    refine ⟨.int .u64 (djoin (droot (l.take (dhalf l.length))) (droot (l.drop (dhalf l.length)))), fun W hW => ?_, hK _ ?_⟩
    · exact (join_any _ _ _).mono fun e w' h => ⟨h.1, hW.trans h.2⟩
    clear hK K
    repeat (refine wpQuiet_step (fun K hK => ?_); go_simp; refine ⟨_, fun _ _ => rfl, hK _ ?_⟩; clear hK K)
    refine wpQuiet_nil ?_
    intro w' hw'
    have HW := Lib.hid hw'
    clear hw'
    go_wp2
    go_ret
    exact ⟨by rw [droot_two (l := l) (by omega)]; rfl, HW.out⟩
end Go.Proofs.Ytlikefnngkokhaa
