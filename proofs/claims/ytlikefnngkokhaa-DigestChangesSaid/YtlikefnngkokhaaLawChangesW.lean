/- The walk of DigestChanges. -/
import Derived.Test.YtlikefnngkokhaaEx
set_option linter.unusedVariables false
set_option linter.unusedSimpArgs false
namespace Go.Proofs.Ytlikefnngkokhaa
open Go.RowKit
set_option maxRecDepth 100000 in
set_option maxHeartbeats 2000000 in
theorem changes_walk (A : Option Addr) (l : List Int) (c : Nat) (a b : Nat) (v : Int) (w : World) (hcap : l.length ≤ c) (hr : Rd w .u64 A l) (hU : Us l) (ha : a < 65536) (hb : b < 65536) (hv : U v) :
    Calls Try.prog 5 #[.slice A l.length c, .agg #[.int .u16 a, .int .u16 b], .int .u64 v] w fun e w' => e = .returned (.bool true) ∧ Gr w w' := by
  have HR := Lib.hid hr
  obtain ⟨n, hn⟩ : ∃ n, n = 1 + a % 300 := ⟨_, rfl⟩
  have hn1 : 1 ≤ n ∧ n ≤ 300 := by omega
  have en : 1 + (a : Int) % 300 = (n : Int) := by omega
  have HN := Lib.hid en
  have HU := Lib.hid hU
  have HV := Lib.hid hv
  clear hr en hn hU hv
  go_enter Try.func5, Try.ntmps5
  go_wp2_with fail
  refine (examples_any _).mono ?_
  rintro e w1 ⟨rfl, hg1⟩
  have b1 := hg1.block (heap_new _ _)
  have x0 := cell_row b1 0
  have HG1 := Lib.hid hg1
  have HB1 := Lib.hid b1
  clear hg1 b1
  go_wp2_with fail
  rw [HN.out]
  have C2 := grown_any A l c n w1 (by omega) hcap (HR.out.gr (((Gr.refl w).alloc _).trans HG1.out))
  refine C2.mono ?_
  clear C2 x0
  rintro e w2 ⟨v2, rfl, ho2, hg2⟩
  have hdl := dgrown_len l n
  have hdU := dgrown_Us HU.out n
  obtain ⟨d, hd⟩ : ∃ d, d = dgrown l n := ⟨_, rfl⟩
  rw [← hd] at ho2 hdl hdU
  obtain ⟨A2, c2, rfl, hc2, hr2⟩ := ho2.reads
  obtain ⟨i, hi⟩ : ∃ i, i = b % n := ⟨_, rfl⟩
  have hi1 : i < n := by rw [hi]; exact Nat.mod_lt _ (by omega)
  have ei : (b : Int) % (n : Int) = (i : Int) := by rw [hi]; rfl
  have HI := Lib.hid ei
  have HR2 := Lib.hid hr2
  have HDL := Lib.hid hdl
  have HDU := Lib.hid hdU
  obtain ⟨ad, rfl, hcell⟩ := hr2.2 (by rw [hdl]; omega)
  have hdi := hcell i (by rw [hdl]; exact hi1)
  have HDI := Lib.hid hdi
  have x1 := cell_row (hg2.block HB1.out) 1
  have HG2 := Lib.hid hg2
  have hn0 : ¬ (n : Int) = 0 := by omega
  have hin : (i : Int) < (n : Int) := by omega
  have hdl' : d.length = n := hdl
  rw [hdl] at hc2
  clear ho2 hd hi ei hr2 hdl hg2 hdU hcell hdi
  rw [hdl']
  clear hdl'
  have hld : (ints .u64 d).length = n := by rw [ints_length]; exact HDL.out
  have HLD := Lib.hid hld
  obtain ⟨x, hx⟩ : ∃ x, x = d.getD i 0 := ⟨_, rfl⟩
  have HX := Lib.hid hx
  clear hld hx
  go_wp2_with (at_builtin; refine wpList_appN rfl (.tmp 29) (.tmp 30) 22 33 (.int .u64 0) 8 rfl Try.underlying22 infoU64 rfl (by decide) w2.heap.size _ [] (ints .u64 d) (some ad) n c2 rfl rfl HLD.out (ints_one _ _) (Own.lit w2 w2.heap.size 33 [] (Nat.le_refl _) (by simp)) (HR2.out.gr ((Gr.refl _).alloc _)).toV ((Gr.refl _).alloc _).size (by simp; omega) ?_; intro v3 w3 ho3 hg3 ha3; rw [HI.out]; have HO3 := Lib.hid ho3; have HG3 : Hid (Gr w2 w3) := Lib.hid (((Gr.refl w2).alloc _).grown hg3 (fun k hk => (Own.lit w2 w2.heap.size 33 [] (Nat.le_refl _) (by simp)).block_ge k hk)); obtain ⟨g3, c3, hv3, hc3, hB3, hL3⟩ := HO3.out.form (by rw [List.nil_append, HLD.out]; omega); rw [List.nil_append, HLD.out] at hv3 hc3; subst hv3; have hx3 := HO3.out.cell i (.int .u64 x) (by rw [List.nil_append]; simp [ints, HX.out, List.getElem?_eq_getElem (show i < d.length by rw [HDL.out]; exact hi1)]); have hf3 := HO3.out.frozen i; clear ho3 hg3 ha3)
  have HO4 : Hid (Own (w3.setCell ⟨g3, i, none⟩ (.int .u64 v)) w2.heap.size 33 (.slice (some ⟨g3, 0, none⟩) n c3) (ints .u64 (d.set i v))) := Lib.hid (by
    have h := HO3.out.set (by rw [List.nil_append, HLD.out]) i (.int .u64 v)
    rw [List.nil_append] at h
    simpa [ints, List.map_set] using h)
  have HG4 : Hid (Gr w2 (w3.setCell ⟨g3, i, none⟩ (.int .u64 v))) := Lib.hid (HG3.out.setCell hB3 _)
  clear hx3 hf3 hL3 x1
  obtain ⟨W4, hW4⟩ : ∃ W, W = w3.setCell ⟨g3, i, none⟩ (.int .u64 v) := ⟨_, rfl⟩
  rw [← hW4] at HO4 HG4 ⊢
  clear hW4
  obtain ⟨A4, c4, hv4, hc4, hr4⟩ := HO4.out.reads
  rw [List.length_set, HDL.out] at hv4
  injection hv4 with hA4 _ hcc4
  subst hA4 hcc4
  have HR4 := Lib.hid hr4
  have HSL : Hid ((d.set i v).length = n) := Lib.hid (by rw [List.length_set]; exact HDL.out)
  clear hr4 hc4
  have C5 := pathOf_any (some ad) d c2 i W4 (by rw [HDL.out]; omega) (by rw [HDL.out]; omega) (by rw [HDL.out]; omega) (HR2.out.gr HG4.out)
  rw [HDL.out] at C5
  refine C5.mono ?_
  clear C5
  rintro e w5 ⟨v5, rfl, ho5, hg5⟩
  have HG5 := Lib.hid hg5
  obtain ⟨p, hp⟩ : ∃ p, p = dpath d i := ⟨_, rfl⟩
  rw [← hp] at ho5
  have HP := Lib.hid hp
  have HO5 := Lib.hid ho5
  clear hg5 hp ho5
  go_wp2_with fail
  have C6 := pathOf_any (some ⟨g3, 0, none⟩) (d.set i v) c3 i w5 (by rw [HSL.out]; omega) (by rw [HSL.out]; omega) (by rw [HSL.out]; omega) (HR4.out.gr HG5.out)
  rw [HSL.out] at C6
  refine C6.mono ?_
  clear C6
  rintro e w6 ⟨v6, rfl, ho6, hg6⟩
  rw [dpath_set d.length d i v (Nat.le_refl _) (by rw [HDL.out]; exact hi1), ← HP.out] at ho6
  obtain ⟨A5, c5, rfl, hc5, hr5⟩ := HO5.out.reads
  obtain ⟨A6, c6, rfl, hc6, hr6⟩ := ho6.reads
  have HG6 := Lib.hid hg6
  have HR5 : Hid (Rd w6 .u64 A5 p) := Lib.hid (hr5.gr hg6)
  have HR6 := Lib.hid hr6
  clear hg6 ho6 hr5 hr6
  go_wp2_with fail
  obtain ⟨W7, hW7⟩ : ∃ W, W = (w6.alloc (.cells #[.slice A5 p.length c5, .int .i64 0] 29)).alloc (.cells #[.slice A6 p.length c6, .int .i64 0] 29) := ⟨_, rfl⟩
  have HG7 : Hid (Gr w6 W7) := Lib.hid (by rw [hW7]; exact ((Gr.refl _).alloc _).alloc _)
  have B5 : Hid (W7.heap[w6.heap.size]? = some (.cells #[.slice A5 p.length c5, .int .i64 0] 29 (0, 0))) := Lib.hid (by rw [hW7]; exact heap_new2 _ _ _)
  have B6 : Hid (W7.heap[w6.heap.size + 1]? = some (.cells #[.slice A6 p.length c6, .int .i64 0] 29 (0, 0))) := Lib.hid (by rw [hW7]; exact heap_new2' _ _ _)
  rw [← hW7]
  clear hW7
  have GW7 : Hid (Gr w W7) := Lib.hid (((((Gr.refl w).alloc _).trans HG1.out).trans HG2.out).trans ((HG4.out.trans HG5.out).trans (HG6.out.trans HG7.out)))
  have HD7 : Hid (W7.cell? (ad.add i) = some (.int .u64 x)) := Lib.hid (((HG4.out.trans HG5.out).trans (HG6.out.trans HG7.out)).cell (by rw [HX.out]; exact HDI.out))
  have F : Hid (∀ W, Gr W7 W → W.cell? ⟨w6.heap.size, 0, none⟩ = some (.slice A5 p.length c5) ∧ W.cell? ⟨w6.heap.size, 1, none⟩ = some (.int .i64 0) ∧ W.cell? ⟨w6.heap.size + 1, 0, none⟩ = some (.slice A6 p.length c6) ∧ W.cell? ⟨w6.heap.size + 1, 1, none⟩ = some (.int .i64 0) ∧ W.cell? (ad.add i) = some (.int .u64 x)) :=
    Lib.hid (fun W hW => ⟨cell_row (hW.block B5.out) 0, cell_row (hW.block B5.out) 1, cell_row (hW.block B6.out) 0, cell_row (hW.block B6.out) 1, hW.cell HD7.out⟩)
  have CS : Hid (∀ W, Gr W7 W → Calls Try.prog 14 #[.slice A5 p.length c5, .slice A6 p.length c6] W fun e w' => e = .returned (.bool true) ∧ Gr W w') :=
    Lib.hid (fun W hW => same_yes A5 A6 p c5 c6 W (HR5.out.gr (HG7.out.trans hW)) (HR6.out.gr (HG7.out.trans hW)))
  have CR1 : Hid (∀ W, Gr W7 W → Calls Try.prog 13 #[.slice (some ad) n c2] W fun e w' => e = .returned (.int .u64 (droot d)) ∧ Gr W w') := Lib.hid (fun W hW => by
    have C := root_any n (some ad) d c2 W (by rw [HDL.out]; omega) (by rw [HDL.out]; omega) (by rw [HDL.out]; omega) (HR2.out.gr (((HG4.out.trans HG5.out).trans (HG6.out.trans HG7.out)).trans hW))
    rw [HDL.out] at C
    exact C)
  have CR2 : Hid (∀ W, Gr W7 W → Calls Try.prog 13 #[.slice (some ⟨g3, 0, none⟩) n c3] W fun e w' => e = .returned (.int .u64 (droot (d.set i v))) ∧ Gr W w') := Lib.hid (fun W hW => by
    have C := root_any n (some ⟨g3, 0, none⟩) (d.set i v) c3 W (by rw [HSL.out]; omega) (by rw [HSL.out]; omega) (by rw [HSL.out]; omega) (HR4.out.gr ((HG5.out.trans (HG6.out.trans HG7.out)).trans hW))
    rw [HSL.out] at C
    exact C)
  have CK : Hid (∀ W, Gr W7 W → Calls Try.prog 12 #[.int .u64 (droot (d.set i v)), .agg #[.int .i64 n, .slice A5 p.length c5], .agg #[.int .i64 i, .int .u64 v]] W fun e w' => e = .returned (.int .i64 0) ∧ Gr W w') := Lib.hid (fun W hW => by
    have C := lcheck_any (droot (d.set i v)) n i v A5 p c5 W hc5 (HR5.out.gr (HG7.out.trans hW))
    have hf := check_changed (d := d) (i := i) (by rw [HDL.out]; omega) (by rw [HDL.out]; omega) v
    rw [HDL.out, ← HP.out] at hf
    rw [hf] at C
    exact C)
  obtain ⟨r1, hr1⟩ : ∃ r, r = droot (d.set i v) := ⟨_, rfl⟩
  have hq : (droot d == r1) = (v == x) := by
    have h := root_set HDU.out (i := i) (by rw [HDL.out]; omega) HV.out
    rw [← HX.out, ← hr1] at h
    by_cases e : v = x
    · rw [h.2 e, e, beq_self_eq_true, beq_self_eq_true]
    · have e2 : ¬ droot d = r1 := fun e3 => e (h.1 e3.symm)
      rw [beq_eq_false_iff_ne.2 e2, beq_eq_false_iff_ne.2 e]
  rw [← hr1] at CR2 CK
  clear hr1
  refine wp_region_quiet (C := fun W => Gr W7 W) (by kernel_rfl) (by kernel_rfl) ((Gr.refl _).drew) ?_
  repeat (refine wpQuiet_step (fun K hK => ?_); go_simp; first
    | (refine ⟨_, fun _ _ => rfl, hK _ ?_⟩; clear hK K)
    | (apply Exists.intro; refine ⟨fun W hW => ?_, hK _ ?_⟩; (obtain ⟨y0, y1, y2, y3, y4⟩ := F.out W hW; go_simp; rfl); clear hK K)
    | (apply Exists.intro; refine ⟨fun W hW => ?_, hK _ ?_⟩; (first
        | (go_at_call 14; ((with_reducible refine (CS.out W hW).mono ?_); exact fun e w' h => ⟨h.1, hW.trans h.2⟩))
        | (go_at_call 13; ((with_reducible refine (CR1.out W hW).mono ?_); exact fun e w' h => ⟨h.1, hW.trans h.2⟩))
        | (go_at_call 13; ((with_reducible refine (CR2.out W hW).mono ?_); exact fun e w' h => ⟨h.1, hW.trans h.2⟩))
        | (go_at_call 12; ((with_reducible refine (CK.out W hW).mono ?_); exact fun e w' h => ⟨h.1, hW.trans h.2⟩))); clear hK K))
  refine wpQuiet_nil ?_
  intro W hW
  have HWW := Lib.hid hW
  clear hW hq
  go_wp2
  go_ret
  exact ⟨rfl, GW7.out.trans HWW.out⟩
theorem changes_int (A : Option Addr) (l : List Int) (c : Nat) (a b : Int) (v : Int) (w : World) (hcap : l.length ≤ c) (hr : Rd w .u64 A l) (hU : ∀ z ∈ l, (Lit.int .u64 z).wf = true) (ha : 0 ≤ a ∧ a ≤ 65535) (hb : 0 ≤ b ∧ b ≤ 65535) (hv : 0 ≤ v ∧ v ≤ 18446744073709551615) :
    Calls Try.prog 5 #[.slice A l.length c, .agg #[.int .u16 a, .int .u16 b], .int .u64 v] w fun e w' => e = .returned (.bool true) ∧ Gr w w' := by
  obtain ⟨a, rfl⟩ := Int.eq_ofNat_of_zero_le ha.1
  obtain ⟨b, rfl⟩ := Int.eq_ofNat_of_zero_le hb.1
  exact changes_walk A l c a b v w hcap hr (Us_of_wf hU) (by omega) (by omega) (by unfold U; omega)
end Go.Proofs.Ytlikefnngkokhaa
