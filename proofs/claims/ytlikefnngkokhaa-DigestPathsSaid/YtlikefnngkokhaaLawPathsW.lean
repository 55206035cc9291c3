/- The walk of DigestPaths. -/
import Derived.Test.YtlikefnngkokhaaEx
import Derived.Test.YtlikefnngkokhaaTreeLaw
set_option linter.unusedVariables false
set_option linter.unusedSimpArgs false
namespace Go.Proofs.Ytlikefnngkokhaa
open Go.RowKit
theorem paths_fin (d : List Int) (i : Nat) (hi : i < d.length) (hn : d.length ≤ 4096) : dcheck (droot d) d.length i (d.getD i 0) (dpath d i) = 0 := by
  unfold dcheck
  rw [if_neg (by omega), Int.toNat_natCast, Int.toNat_natCast, dclimb_path d.length d i (Nat.le_refl _) hi, if_pos rfl]
set_option maxHeartbeats 1000000 in
theorem paths_walk (A : Option Addr) (l : List Int) (c : Nat) (a b : Nat) (w : World) (hcap : l.length ≤ c) (hr : Rd w .u64 A l) (ha : a < 65536) (hb : b < 65536) :
    Calls Try.prog 3 #[.slice A l.length c, .agg #[.int .u16 a, .int .u16 b]] w fun e w' => e = .returned (.bool true) ∧ Gr w w' := by
  have HR := Lib.hid hr
  have hfl := fun w => field_paths1 (.slice none 0 0) 1 w
  obtain ⟨n, hn⟩ : ∃ n, n = 1 + a % 300 := ⟨_, rfl⟩
  have hn1 : 1 ≤ n ∧ n ≤ 300 := by omega
  have en : 1 + (a : Int) % 300 = (n : Int) := by omega
  have HN := Lib.hid en
  clear hr en hn
  go_enter Try.func3, Try.ntmps3
  go_wp2_with fail
  refine (examples_any _).mono ?_
  rintro e w1 ⟨rfl, hg1⟩
  have b1 := hg1.block (heap_new _ _)
  have x0 := cell_row b1 0
  have x1 := cell_row b1 1
  have HG1 := Lib.hid hg1
  have HB1 := Lib.hid b1
  clear hg1 b1
  go_wp2_with fail
  rw [HN.out]
  have C2 := grown_any A l c n w1 (by omega) hcap (HR.out.gr (((Gr.refl w).alloc _).trans HG1.out))
  refine C2.mono ?_
  clear C2
  rintro e w2 ⟨v2, rfl, ho2, hg2⟩
  have hdl := dgrown_len l n
  obtain ⟨d, hd⟩ : ∃ d, d = dgrown l n := ⟨_, rfl⟩
  rw [← hd] at ho2 hdl
  obtain ⟨A2, c2, rfl, hc2, hr2⟩ := ho2.reads
  obtain ⟨i, hi⟩ : ∃ i, i = b % n := ⟨_, rfl⟩
  have hi1 : i < n := by rw [hi]; exact Nat.mod_lt _ (by omega)
  have ei : (b : Int) % (n : Int) = (i : Int) := by rw [hi]; rfl
  have HI := Lib.hid ei
  have C3 := pathOf_any A2 d c2 i w2 (by omega) hc2 (by omega) hr2
  have HC3 := Lib.hid C3
  have HR2 := Lib.hid hr2
  have HDL := Lib.hid hdl
  have HD := Lib.hid hd
  have x0 := hg2.cell x0
  have x1 := hg2.cell x1
  have HG2 := Lib.hid hg2
  have hn0 : ¬ (n : Int) = 0 := by omega
  have hdl' : d.length = n := hdl
  rw [hdl] at hc2
  clear ho2 hd hi ei C3 hr2 hdl hg2 
  rw [hdl']
  clear hdl'
  go_wp2_with fail
  rw [HI.out]
  have C3 := HC3.out
  rw [HDL.out] at C3
  refine C3.mono ?_
  clear C3
  rintro e w3 ⟨v3, rfl, ho3, hg3⟩
  obtain ⟨A3, c3, rfl, hc3, hr3⟩ := ho3.reads
  have HR3 := Lib.hid hr3
  have HG3 := Lib.hid hg3
  obtain ⟨p, hp⟩ : ∃ p, p = dpath d i := ⟨_, rfl⟩
  rw [← hp] at hc3 HR3 ⊢
  have HP := Lib.hid hp
  clear ho3 hg3 hr3 hp
  go_wp2_with fail
  obtain ⟨ad, rfl, hcell⟩ := HR2.out.2 (by rw [HDL.out]; omega)
  have hdi := hcell i (by rw [HDL.out]; exact hi1)
  have HDI := Lib.hid hdi
  have HFIN := Lib.hid (paths_fin d i (by rw [HDL.out]; exact hi1) (by rw [HDL.out]; omega))
  have hpl := dpath_bits
  have HPL := Lib.hid hpl
  clear hcell hdi hpl
  go_loopw [9] (fun x wr => ∃ k : Nat, k ≤ 9 ∧ x = .int .i64 k ∧ wr = w3.alloc (.cells #[.slice A3 p.length c3, .int .i64 0] 29)) (fun x _ => 9 - (intOf x).toNat)
  case atStart => exact ⟨0, by omega, rfl, rfl⟩
  case round =>
    obtain ⟨k, hk, rfl, rfl⟩ := hrel
    obtain ⟨m, hm⟩ : ∃ m, m = 2 ^ k := ⟨_, rfl⟩
    have hm2 : m ≤ 512 := by rw [hm]; exact Nat.pow_le_pow_right (n := 2) (by omega) hk
    have hw : wrap64 ((2 : Int) ^ k) = (m : Int) := by
      have : ((2 : Int) ^ k) = (m : Int) := by rw [hm]; simp
      rw [this]; unfold wrap64; omega
    have HM := Lib.hid hm
    have HW := Lib.hid hw
    clear hm hw
    by_cases hlt : m < n
    · have hk9 : k < 9 := by
        rcases Nat.lt_or_ge k 9 with h | h
        · exact h
        · have h9 : k = 9 := by omega
          have := HM.out; subst h9; simp at this; omega
      have hw := HW.out
      go_wp2
      go_roundw
      case rel => exact ⟨k + 1, by omega, by go_num, trivial⟩
      case measure => simp [intOf]; omega
    · have hpk : p.length ≤ k := by rw [HP.out]; exact HPL.out k d i (by rw [HDL.out, ← HM.out]; omega)
      have hpk' : (p.length : Int) ≤ (k : Int) := by omega
      have hwr : IntKind.i64.wrap (-1 - (i : Int)) = -1 - (i : Int) := IntWalk.i64_in _ (by omega)
      have hii : (i : Int) < (n : Int) := by omega
      have F : Hid (∀ W, Gr (w3.alloc (.cells #[.slice A3 p.length c3, .int .i64 0] 29)) W → W.cell? ⟨w3.heap.size, 0, none⟩ = some (.slice A3 p.length c3) ∧ W.cell? ⟨w3.heap.size, 1, none⟩ = some (.int .i64 0) ∧ W.cell? (ad.add i) = some (.int .u64 (d.getD i 0))) :=
        Lib.hid (fun W hW => ⟨cell_row (hW.block (heap_new _ _)) 0, cell_row (hW.block (heap_new _ _)) 1, hW.cell (((Gr.refl w3).alloc _).cell (HG3.out.cell HDI.out))⟩)
      have HRd : Hid (∀ W, Gr (w3.alloc (.cells #[.slice A3 p.length c3, .int .i64 0] 29)) W → Rd W .u64 (some ad) d) := Lib.hid (fun W hW => HR2.out.gr (HG3.out.trans (((Gr.refl w3).alloc _).trans hW)))
      have HRp : Hid (∀ W, Gr (w3.alloc (.cells #[.slice A3 p.length c3, .int .i64 0] 29)) W → Rd W .u64 A3 p) := Lib.hid (fun W hW => HR3.out.gr (((Gr.refl w3).alloc _).trans hW))
      have CK : Hid (∀ W, Gr (w3.alloc (.cells #[.slice A3 p.length c3, .int .i64 0] 29)) W → Calls Try.prog 12 #[.int .u64 (droot d), .agg #[.int .i64 n, .slice A3 p.length c3], .agg #[.int .i64 i, .int .u64 (d.getD i 0)]] W fun e w' => e = .returned (.int .i64 0) ∧ Gr W w') := Lib.hid (fun W hW => by
        have C := lcheck_any (droot d) n i (d.getD i 0) A3 p c3 W hc3 (HRp.out W hW)
        have hf := HFIN.out
        rw [HDL.out, ← HP.out] at hf
        rw [hf] at C
        exact C)
      have hw := HW.out
      go_wp2_with fail
      clear hw
      refine wp_region_quiet (C := fun W => Gr (w3.alloc (.cells #[.slice A3 p.length c3, .int .i64 0] 29)) W) (by kernel_rfl) (by kernel_rfl) ((Gr.refl _).drew) ?_
      repeat (refine wpQuiet_step (fun K hK => ?_); go_simp; first
        | (refine ⟨_, fun _ _ => rfl, hK _ ?_⟩; clear hK K)
        | (apply Exists.intro; refine ⟨fun W hW => ?_, hK _ ?_⟩; (obtain ⟨y0, y1, y2⟩ := F.out W hW; go_simp; rfl); clear hK K)
        | (apply Exists.intro; refine ⟨fun W hW => ?_, hK _ ?_⟩; (first
            | (go_at_call 13; have C := root_any n (some ad) d c2 W (by rw [HDL.out]; omega) (by rw [HDL.out]; omega) (by rw [HDL.out]; omega) (HRd.out W hW); rw [HDL.out] at C; exact C.mono fun e w' h => ⟨h.1, hW.trans h.2⟩)
            | (go_at_call 12; exact (CK.out W hW).mono fun e w' h => ⟨h.1, hW.trans h.2⟩)
            | (go_at_call 11; exact (pathOf_err _ n c2 _ W (by omega)).mono fun e w' h => ⟨h.1, hW.trans h.2⟩)); clear hK K))
      refine wpQuiet_nil ?_
      intro W hW
      have HWW := Lib.hid hW
      clear hW
      go_wp2
      go_ret
      exact ⟨rfl, ((((Gr.refl w).alloc _).trans HG1.out).trans HG2.out).trans (HG3.out.trans (((Gr.refl w3).alloc _).trans HWW.out))⟩
end Go.Proofs.Ytlikefnngkokhaa
