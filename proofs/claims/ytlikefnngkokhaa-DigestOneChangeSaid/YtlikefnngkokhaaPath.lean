/- Contract of path. -/
import Derived.Test.YtlikefnngkokhaaTree
import Derived.Test.YtlikefnngkokhaaTypes
set_option linter.unusedVariables false
set_option linter.unusedSimpArgs false
namespace Go.Proofs.Ytlikefnngkokhaa
open Go.RowKit
def PathPost (l : List Int) (i : Nat) (w : World) (e : Ending) (w' : World) : Prop := ∃ v, e = .returned v ∧ Own w' w.heap.size 33 v (ints .u64 (dpath l i)) ∧ Gr w w'
set_option maxHeartbeats 400000 in
theorem path_any (d : Nat) : ∀ (A : Option Addr) (l : List Int) (c : Nat) (i : Nat) (w : World) (hd : l.length ≤ d) (hl : l.length ≤ 1048576) (hcap : l.length ≤ c) (hi : i < l.length) (hr : Rd w .u64 A l),
    Calls Try.prog 35 #[.slice A l.length c, .int .i64 i] w (PathPost l i w) := by
  induction d with
  | zero => intro A l c i w hd hl hcap hi hr; omega
  | succ d ih =>
    intro A l c i w hd hl hcap hi hr
    by_cases h1 : l.length = 1
    · have hb1 : ((l.length : Int) == 1) = true := by simp; omega
      have HL := Lib.hid h1
      clear ih h1 hr hcap hi hd hl
      go_enter Try.func35, Try.ntmps35
      go_wp2
      go_ret
      exact ⟨.slice none 0 0, rfl, by rw [dpath_one (by rw [HL.out]; omega)]; exact Own.nil _ _ _, Gr.refl _⟩
    have hb1 : ((l.length : Int) == 1) = false := by simp; omega
    obtain ⟨hk1, hk2, hk3⟩ := dhalf_spec (n := l.length) (by omega)
    have hI1 : (dhalf l.length : Int) ≤ (l.length : Int) := by omega
    have hI2 : (dhalf l.length : Int) ≤ (c : Int) := by omega
    have hcne : ¬ c = dhalf l.length := by omega
    obtain ⟨ad, rfl, hc⟩ := hr.2 (by omega)
    have IH := Lib.hid ih
    clear ih hc
    by_cases hlt : i < dhalf l.length
    · have C1 := IH.out (some ad) (l.take (dhalf l.length)) c i w.drew (by simp; omega) (by simp; omega) (by simp; omega) (by simp; omega) ((hr.take _).gr (Gr.refl _).drew)
      rw [show (l.take (dhalf l.length)).length = dhalf l.length from by simp; omega] at C1
      have C2 := fun w1 (hg : Gr w w1) => root_any l.length (some (ad.add (dhalf l.length))) (l.drop (dhalf l.length)) (c - dhalf l.length) w1 (by simp) (by simp; omega) (by simp; omega) ((hr.drop _).gr hg)
      rw [show (l.drop (dhalf l.length)).length = l.length - dhalf l.length from by simp] at C2
      have hp := dpath_len l.length (l.take (dhalf l.length)) i (by simp; omega)
      have HP : Hid ((dpath (l.take (dhalf l.length)) i).length ≤ 1048576) := Lib.hid (by simp at hp; omega)
      have hfin : dpath l i = dpath (l.take (dhalf l.length)) i ++ [droot (l.drop (dhalf l.length))] := dpath_left (by omega) hlt
      have HF := Lib.hid hfin
      have HC1 := Lib.hid C1
      have HC2 := Lib.hid C2
      clear hp hfin C1 C2
      go_enter Try.func35, Try.ntmps35
      go_wp2_with (go_at_call 31; refine (half_any l.length (by omega) _).mono ?_; rintro e w' ⟨rfl, rfl⟩)
      go_region_law (first
        | (go_simp; go_at_call 35; go_must (refine HC1.out.mono ?_; rintro e w1 ⟨v, rfl, ho, hg⟩; have hg1 := (Gr.refl w).drew.trans hg; have HG1 := Lib.hid hg1; have HO := Lib.hid ho; clear hg1 ho hg))
        | (go_simp; go_at_call 13; go_must (refine (HC2.out _ HG1.out).mono ?_; rintro e w2 ⟨rfl, hg2⟩; have HG2 := Lib.hid hg2; clear hg2))
        | (refine step_app1 rfl (.tmp 19) (.tmp 24) 22 33 (.int .u64 0) 8 rfl Try.underlying22 infoU64 rfl (by decide) w.heap.size v _ (.int .u64 (droot (l.drop (dhalf l.length)))) w2.heap.size (0, 0) rfl rfl rfl ((HO.out.gr HG2.out).gr ((Gr.refl _).alloc _)) (heap_new _ _) (Nat.le_trans (HG1.out.trans HG2.out).size ((Gr.refl _).alloc _).size) (by rw [ints_length]; have := HP.out; omega) ?_; intro v3 w3 hown hgrow hat))
      have HO3 := Lib.hid hown
      have HG3 : Hid (Gr w w3) := Lib.hid (((HG1.out.trans HG2.out).alloc _).grown hgrow (fun k hk => HO.out.block_ge k hk))
      clear hown hgrow hat
      go_wp2
      go_ret
      exact ⟨v3, rfl, by rw [HF.out, ints_append]; exact HO3.out, HG3.out⟩
    · have hI0 : (dhalf l.length : Int) ≤ (i : Int) := by omega
      have ei : (i : Int) - (dhalf l.length : Int) = ((i - dhalf l.length : Nat) : Int) := by omega
      have C1 := IH.out (some (ad.add (dhalf l.length))) (l.drop (dhalf l.length)) (c - dhalf l.length) (i - dhalf l.length) w.drew (by simp; omega) (by simp; omega) (by simp; omega) (by simp; omega) ((hr.drop _).gr (Gr.refl _).drew)
      rw [show (l.drop (dhalf l.length)).length = l.length - dhalf l.length from by simp, ← ei] at C1
      have C2 := fun w1 (hg : Gr w w1) => root_any l.length (some ad) (l.take (dhalf l.length)) c w1 (by simp; omega) (by simp; omega) (by simp; omega) ((hr.take _).gr hg)
      rw [show (l.take (dhalf l.length)).length = dhalf l.length from by simp; omega] at C2
      have hp := dpath_len l.length (l.drop (dhalf l.length)) (i - dhalf l.length) (by simp)
      have HP : Hid ((dpath (l.drop (dhalf l.length)) (i - dhalf l.length)).length ≤ 1048576) := Lib.hid (by simp at hp; omega)
      have hfin : dpath l i = dpath (l.drop (dhalf l.length)) (i - dhalf l.length) ++ [droot (l.take (dhalf l.length))] := dpath_right (by omega) hlt
      have HF := Lib.hid hfin
      have HC1 := Lib.hid C1
      have HC2 := Lib.hid C2
      clear hp hfin C1 C2 ei
      have hwr : IntKind.i64.wrap ((i : Int) - (dhalf l.length : Int)) = (i : Int) - (dhalf l.length : Int) := IntWalk.i64_in _ (by omega)
      go_enter Try.func35, Try.ntmps35
      go_wp2_with (go_at_call 31; refine (half_any l.length (by omega) _).mono ?_; rintro e w' ⟨rfl, rfl⟩)
      go_region_law (first
        | (go_simp; go_at_call 35; go_must (refine HC1.out.mono ?_; rintro e w1 ⟨v, rfl, ho, hg⟩; have hg1 := (Gr.refl w).drew.trans hg; have HG1 := Lib.hid hg1; have HO := Lib.hid ho; clear hg1 ho hg))
        | (go_simp; go_at_call 13; go_must (refine (HC2.out _ HG1.out).mono ?_; rintro e w2 ⟨rfl, hg2⟩; have HG2 := Lib.hid hg2; clear hg2))
        | (refine step_app1 rfl (.tmp 32) (.tmp 37) 22 33 (.int .u64 0) 8 rfl Try.underlying22 infoU64 rfl (by decide) w.heap.size v _ (.int .u64 (droot (l.take (dhalf l.length)))) w2.heap.size (0, 0) rfl rfl rfl ((HO.out.gr HG2.out).gr ((Gr.refl _).alloc _)) (heap_new _ _) (Nat.le_trans (HG1.out.trans HG2.out).size ((Gr.refl _).alloc _).size) (by rw [ints_length]; have := HP.out; omega) ?_; intro v3 w3 hown hgrow hat))
      have HO3 := Lib.hid hown
      have HG3 : Hid (Gr w w3) := Lib.hid (((HG1.out.trans HG2.out).alloc _).grown hgrow (fun k hk => HO.out.block_ge k hk))
      clear hown hgrow hat
      go_wp2
      go_ret
      exact ⟨v3, rfl, by rw [HF.out, ints_append]; exact HO3.out, HG3.out⟩
end Go.Proofs.Ytlikefnngkokhaa
