/- The walk of DigestRefuses. -/
import Derived.Test.YtlikefnngkokhaaEx
set_option linter.unusedVariables false
set_option linter.unusedSimpArgs false
namespace Go.Proofs.Ytlikefnngkokhaa
open Go.RowKit
/-- What lies in the call's own blocks: the numbers, the path with its error, the leaf. -/
structure RefLoc (W : World) (g0 g1 g2 : Nat) (a b c : Int) (v : Value) (i x : Int) : Prop where
  p : W.heap[g0]? = some (.cells #[.int .u16 a, .int .u16 b, .int .u16 c] 40 (0, 0))
  q : W.heap[g1]? = some (.cells #[v, .int .i64 0] 29 (0, 0))
  r : W.heap[g2]? = some (.cells #[.int .i64 i, .int .u64 x] 38 (0, 0))
theorem RefLoc.gr {W W' : World} {g0 g1 g2 : Nat} {a b c : Int} {v : Value} {i x : Int} (h : RefLoc W g0 g1 g2 a b c v i x) (hg : Gr W W') : RefLoc W' g0 g1 g2 a b c v i x :=
  ⟨hg.block h.p, hg.block h.q, hg.block h.r⟩
theorem RefLoc.facts {W : World} {g0 g1 g2 : Nat} {a b c : Int} {v : Value} {i x : Int} (h : RefLoc W g0 g1 g2 a b c v i x) :
    W.cell? ⟨g0, 2, none⟩ = some (.int .u16 c) ∧ W.cell? ⟨g1, 0, none⟩ = some v ∧ W.cell? ⟨g1, 1, none⟩ = some (.int .i64 0) ∧ W.cell? ⟨g2, 0, none⟩ = some (.int .i64 i) ∧ W.cell? ⟨g2, 1, none⟩ = some (.int .u64 x) ∧
      g0 < W.heap.size ∧ g1 < W.heap.size ∧ g2 < W.heap.size :=
  ⟨cell_row h.p 2, cell_row h.q 0, cell_row h.q 1, cell_row h.r 0, cell_row h.r 1, lt_of_heap h.p, lt_of_heap h.q, lt_of_heap h.r⟩
set_option maxRecDepth 100000 in
set_option maxHeartbeats 2000000 in
theorem refuses_walk (A : Option Addr) (l : List Int) (c : Nat) (a b k : Nat) (v : Int) (w : World) (hcap : l.length ≤ c) (hr : Rd w .u64 A l) (hU : Us l) (ha : a < 65536) (hb : b < 65536) (hk : k < 65536) (hv : U v) :
    Calls Try.prog 4 #[.slice A l.length c, .agg #[.int .u16 a, .int .u16 b, .int .u16 k], .int .u64 v] w fun e w' => e = .returned (.bool true) ∧ Gr w w' := by
  have HR := Lib.hid hr
  obtain ⟨n, hn⟩ : ∃ n, n = 1 + a % 300 := ⟨_, rfl⟩
  have hn1 : 1 ≤ n ∧ n ≤ 300 := by omega
  have en : 1 + (a : Int) % 300 = (n : Int) := by omega
  have HN := Lib.hid en
  have HU := Lib.hid hU
  have HV := Lib.hid hv
  clear hr en hn hU hv
  go_enter Try.func4, Try.ntmps4
  go_wp2_with fail
  refine (examples_any _).mono ?_
  rintro e w1 ⟨rfl, hg1⟩
  have b1 := hg1.block (heap_new _ _)
  have x0 := cell_row b1 0
  have HG1 := Lib.hid hg1
  have HB1 := Lib.hid b1
  clear hg1 b1
  go_wp2_with fail
  rw [HN.out]
  have C2 := grown_any A l c n w1 (by omega) hcap (HR.out.gr (((Gr.refl w).alloc _).trans HG1.out))
  refine C2.mono ?_
  clear C2 x0
  rintro e w2 ⟨v2, rfl, ho2, hg2⟩
  have hdl := dgrown_len l n
  have hdU := dgrown_Us HU.out n
  obtain ⟨d, hd⟩ : ∃ d, d = dgrown l n := ⟨_, rfl⟩
  rw [← hd] at ho2 hdl hdU
  obtain ⟨A2, c2, rfl, hc2, hr2⟩ := ho2.reads
  obtain ⟨i, hi⟩ : ∃ i, i = b % n := ⟨_, rfl⟩
  have hi1 : i < n := by rw [hi]; exact Nat.mod_lt _ (by omega)
  have ei : (b : Int) % (n : Int) = (i : Int) := by rw [hi]; rfl
  have HI := Lib.hid ei
  have HR2 := Lib.hid hr2
  have HDL := Lib.hid hdl
  have HDU := Lib.hid hdU
  obtain ⟨ad, rfl, hcell⟩ := hr2.2 (by rw [hdl]; omega)
  have hdi := hcell i (by rw [hdl]; exact hi1)
  have HDI := Lib.hid hdi
  have x1 := cell_row (hg2.block HB1.out) 1
  have HG2 := Lib.hid hg2
  have hn0 : ¬ (n : Int) = 0 := by omega
  have hin : (i : Int) < (n : Int) := by omega
  have hdl' : d.length = n := hdl
  rw [hdl] at hc2
  clear ho2 hd hi ei hr2 hdl hg2 hdU hcell hdi
  rw [hdl']
  clear hdl'
  go_wp2_with fail
  have C3 := root_any n (some ad) d c2 w2 (by rw [HDL.out]; omega) (by rw [HDL.out]; omega) (by rw [HDL.out]; omega) HR2.out
  rw [HDL.out] at C3
  refine C3.mono ?_
  clear C3 x1
  rintro e w3 ⟨rfl, hg3⟩
  have HG3 := Lib.hid hg3
  clear hg3
  go_wp2_with fail
  rw [HI.out]
  have C4 := pathOf_any (some ad) d c2 i w3 (by rw [HDL.out]; omega) (by rw [HDL.out]; omega) (by rw [HDL.out]; omega) (HR2.out.gr HG3.out)
  rw [HDL.out] at C4
  refine C4.mono ?_
  clear C4
  rintro e w4 ⟨v4, rfl, ho4, hg4⟩
  obtain ⟨A3, c3, rfl, hc3, hr3⟩ := ho4.reads
  have HR3 := Lib.hid hr3
  have HG4 := Lib.hid hg4
  obtain ⟨p, hp⟩ : ∃ p, p = dpath d i := ⟨_, rfl⟩
  rw [← hp] at hc3 HR3 ⊢
  have HP := Lib.hid hp
  obtain ⟨x, hx⟩ : ∃ x, x = d.getD i 0 := ⟨_, rfl⟩
  have HX := Lib.hid hx
  have hld : (w4.alloc (.cells #[.slice A3 p.length c3, .int .i64 0] 29)).cell? (ad.add i) = some (.int .u64 x) :=
    ((Gr.refl w4).alloc _).cell (hg4.cell (HG3.out.cell (by rw [hx]; exact HDI.out)))
  clear ho4 hg4 hr3 hp hx
  go_wp2_with fail
  have L6 : RefLoc ((w4.alloc (.cells #[.slice A3 p.length c3, .int .i64 0] 29)).alloc (.cells #[.int .i64 i, .int .u64 x] 38)) w.heap.size w4.heap.size (w4.heap.size + 1) a b k (.slice A3 p.length c3) i x :=
    ⟨(((HG2.out.trans HG3.out).trans HG4.out).alloc _ |>.alloc _).block HB1.out, heap_new2 _ _ _, heap_new2' _ _ _⟩
  have G6 : Gr w4 ((w4.alloc (.cells #[.slice A3 p.length c3, .int .i64 0] 29)).alloc (.cells #[.int .i64 i, .int .u64 x] 38)) := ((Gr.refl w4).alloc _).alloc _
  obtain ⟨W6, hW6⟩ : ∃ W, W = (w4.alloc (.cells #[.slice A3 p.length c3, .int .i64 0] 29)).alloc (.cells #[.int .i64 i, .int .u64 x] 38) := ⟨_, rfl⟩
  rw [← hW6] at L6 G6 ⊢
  clear hW6 hld
  have HL6 := Lib.hid L6
  have HG6 := Lib.hid G6
  have GW6 : Hid (Gr w W6) := Lib.hid (((((Gr.refl w).alloc _).trans HG1.out).trans HG2.out).trans ((HG3.out.trans HG4.out).trans HG6.out))
  have HD6 : Hid (W6.cell? (ad.add i) = some (.int .u64 x)) := Lib.hid (HG6.out.cell (HG4.out.cell (HG3.out.cell (by rw [HX.out]; exact HDI.out))))
  have HP6 : Hid (Rd W6 .u64 A3 p) := Lib.hid (HR3.out.gr HG6.out)
  clear L6 G6
  have F : Hid (∀ W, Gr W6 W → W.cell? ⟨w4.heap.size, 0, none⟩ = some (.slice A3 p.length c3) ∧ W.cell? ⟨w4.heap.size, 1, none⟩ = some (.int .i64 0) ∧ W.cell? (ad.add i) = some (.int .u64 x)) :=
    Lib.hid (fun W hW => ⟨(HL6.out.gr hW).facts.2.1, (HL6.out.gr hW).facts.2.2.1, hW.cell HD6.out⟩)
  obtain ⟨rr, hrr⟩ : ∃ rr : Int, rr = if v = x then 0 else 6 := ⟨_, rfl⟩
  have CK : Hid (∀ W, Gr W6 W → Calls Try.prog 12 #[.int .u64 (droot d), .agg #[.int .i64 n, .slice A3 p.length c3], .agg #[.int .i64 i, .int .u64 v]] W fun e w' => e = .returned (.int .i64 rr) ∧ Gr W w') := Lib.hid (fun W hW => by
    have C := lcheck_any (droot d) n i v A3 p c3 W hc3 (HP6.out.gr hW)
    have hf := check_leaf HDU.out (by rw [HDL.out]; omega) (i := i) (by rw [HDL.out]; omega) HV.out
    rw [HDL.out, ← HP.out, ← HX.out] at hf
    rw [hf, ← hrr] at C
    exact C)
  have hq : (rr == 0) = (v == x) := by
    rw [hrr]
    by_cases e : v = x
    · rw [if_pos e]; simp [e]
    · rw [if_neg e]; simp [e]
  clear hrr
  refine wp_region_quiet (C := fun W => Gr W6 W) (by kernel_rfl) (by kernel_rfl) ((Gr.refl _).drew) ?_
  repeat (refine wpQuiet_step (fun K hK => ?_); go_simp; first
    | (refine ⟨_, fun _ _ => rfl, hK _ ?_⟩; clear hK K)
    | (apply Exists.intro; refine ⟨fun W hW => ?_, hK _ ?_⟩; (obtain ⟨y0, y1, y2⟩ := F.out W hW; go_simp; rfl); clear hK K)
    | (apply Exists.intro; refine ⟨fun W hW => ?_, hK _ ?_⟩; (first
        | (go_at_call 12; exact (CK.out W hW).mono fun e w' h => ⟨h.1, hW.trans h.2⟩)); clear hK K))
  refine wpQuiet_nil ?_
  intro W7 hW7
  have HG7 := Lib.hid hW7
  clear hW7 hq F CK
  obtain ⟨y0, y1, y2, y3, y4, y5, y6, y7⟩ := (HL6.out.gr HG7.out).facts
  have hlp := ints_length .u64 p
  have hpb := dpath_len d.length d i (Nat.le_refl _)
  rw [← HP.out, HDL.out] at hpb
  have HLP := Lib.hid hlp
  have hpb' : p.length ≤ 300 := by omega
  clear hlp hpb
  go_wp2_with (first
    | (at_builtin; refine wpList_appN rfl (.tmp 67) (.tmp 69) 22 33 (.int .u64 0) 8 rfl Try.underlying22 infoU64 rfl (by decide) W7.heap.size _ [] (ints .u64 p) A3 p.length c3 rfl rfl HLP.out (ints_one _ _) (Own.lit W7 W7.heap.size 33 [] (Nat.le_refl _) (by simp)) (HP6.out.gr (HG7.out.alloc _)).toV ((Gr.refl _).alloc _).size (by simp; omega) ?_; intro v8 w8 ho8 hg8 ha8; have HO8 := Lib.hid ho8; have HG8 : Hid (Gr W7 w8) := Lib.hid (((Gr.refl W7).alloc _).grown hg8 (fun k hk => (Own.lit W7 W7.heap.size 33 [] (Nat.le_refl _) (by simp)).block_ge k hk)); clear ho8 hg8 ha8)
    | (at_builtin; refine wpList_app1 rfl (.tmp 70) (.tmp 72) 22 33 (.int .u64 0) 8 rfl Try.underlying22 infoU64 rfl (by decide) W7.heap.size v8 ([] ++ ints .u64 p) (.int .u64 v) w8.heap.size (0, 0) rfl rfl rfl (HO8.out.gr ((Gr.refl _).alloc _)) (heap_new _ _) (Nat.le_trans HG8.out.size ((Gr.refl _).alloc _).size) (by rw [List.nil_append, HLP.out]; omega) ?_; intro v9 w9 ho9 hg9 ha9; have HG9 : Hid (Gr W7 w9) := Lib.hid ((HG8.out.alloc _).grown hg9 (fun k hk => HO8.out.block_ge k hk)); have HO9 : Hid (Own w9 W7.heap.size 33 v9 (ints .u64 (p ++ [v]))) := Lib.hid (by rw [ints_append]; exact ho9); clear ho9 hg9 ha9; obtain ⟨z0, z1, z2, z3, z4, z5, z6, z7⟩ := (HL6.out.gr (HG7.out.trans HG9.out)).facts)
    | (at_builtin; refine wpList_appN rfl (.tmp 75) (.tmp 77) 22 33 (.int .u64 0) 8 rfl Try.underlying22 infoU64 rfl (by decide) w9.heap.size _ [.int .u64 v] (ints .u64 p) A3 p.length c3 rfl rfl HLP.out (ints_one _ _) (Own.lit w9 w9.heap.size 33 [.int .u64 v] (Nat.le_refl _) (by simp)) (HP6.out.gr ((HG7.out.trans HG9.out).alloc _)).toV ((Gr.refl _).alloc _).size (by simp; omega) ?_; intro v10 w10 ho10 hg10 ha10; have HG10 : Hid (Gr w9 w10) := Lib.hid (((Gr.refl w9).alloc _).grown hg10 (fun k hk => (Own.lit w9 w9.heap.size 33 [.int .u64 v] (Nat.le_refl _) (by simp)).block_ge k hk)); have HO10 : Hid (Own w10 w9.heap.size 33 v10 (ints .u64 (v :: p))) := Lib.hid ho10; clear ho10 hg10 ha10; have HO9' := Lib.hid (HO9.out.gr HG10.out); clear z0 z1 z2 z3 z4 z5 z6 z7; obtain ⟨z0, z1, z2, z3, z4, z5, z6, z7⟩ := (HL6.out.gr ((HG7.out.trans HG9.out).trans HG10.out)).facts; obtain ⟨A9, c9, rfl, hc9, hr9⟩ := HO9'.out.reads; obtain ⟨A10, c10, rfl, hc10, hr10⟩ := HO10.out.reads; have HR9 := Lib.hid hr9; have HR10 := Lib.hid hr10; have HC9 := Lib.hid hc9; have HC10 := Lib.hid hc10; clear hr9 hr10 hc9 hc10))
  have CL : ∀ (A' : Option Addr) (q : List Int) (m c' : Nat) (W : World), q.length = m → m ≠ p.length → q.length ≤ c' → Rd W .u64 A' q → Calls Try.prog 12 #[.int .u64 (droot d), .agg #[.int .i64 n, .slice A' m c'], .agg #[.int .i64 i, .int .u64 x]] W fun e w' => e = .returned (.int .i64 6) ∧ Gr W w' := by
    intro A' q m c' W hm hq hc hrd
    subst hm
    have C := lcheck_any (droot d) n i x A' q c' W hc hrd
    have hf := check_len (d := d) (i := i) (by rw [HDL.out]; omega) (by rw [HDL.out]; omega) (droot d) x (p := q) (by rw [← HP.out]; exact hq)
    rw [HDL.out] at hf
    rw [hf] at C
    exact C
  have HCL := Lib.hid CL
  clear CL
  refine (HCL.out A9 (p ++ [v]) (p.length + 1) c9 w10 (by simp) (by omega) HC9.out HR9.out).mono ?_
  rintro e w11 ⟨rfl, hg11⟩
  have HG11 := Lib.hid hg11
  clear hg11
  clear z0 z1 z2 z3 z4 z5 z6 z7
  obtain ⟨z0, z1, z2, z3, z4, z5, z6, z7⟩ := (HL6.out.gr (((HG7.out.trans HG9.out).trans HG10.out).trans HG11.out)).facts
  go_wp2_with fail
  refine (HCL.out A10 (v :: p) (p.length + 1) c10 w11 (by simp) (by omega) HC10.out (HR10.out.gr HG11.out)).mono ?_
  rintro e w12 ⟨rfl, hg12⟩
  have HG12 : Hid (Gr W6 w12) := Lib.hid ((((HG7.out.trans HG9.out).trans HG10.out).trans HG11.out).trans hg12)
  clear hg12
  clear z0 z1 z2 z3 z4 z5 z6 z7
  obtain ⟨z0, z1, z2, z3, z4, z5, z6, z7⟩ := (HL6.out.gr HG12.out).facts
  by_cases hp0 : p.length = 0
  · have hb1 : ((p.length : Int) == 0) = true := beq_iff_eq.2 (by omega)
    have hb2 : ((n : Int) == 1) = true := by
      have h1 := dpath_zero d i (by rw [← HP.out]; exact hp0)
      rw [HDL.out] at h1
      exact beq_iff_eq.2 (by omega)
    clear hp0
    go_wp2
    go_ret
    exact ⟨rfl, GW6.out.trans HG12.out⟩
  · have hb1 : ((p.length : Int) == 0) = false := beq_eq_false_iff_ne.2 (by omega)
    have hpn : ¬ (p.length : Int) = 0 := by omega
    obtain ⟨t, ht⟩ : ∃ t, t = k % p.length := ⟨_, rfl⟩
    have ht1 : t < p.length := by rw [ht]; exact Nat.mod_lt _ (by omega)
    have et : (k : Int) % (p.length : Int) = (t : Int) := by rw [ht]; rfl
    have HT := Lib.hid et
    clear et ht
    obtain ⟨ad3, rfl, hcell3⟩ := HP6.out.2 (by omega)
    obtain ⟨y, hy⟩ : ∃ y, y = p.getD t 0 := ⟨_, rfl⟩
    have HY := Lib.hid hy
    have HC3 : Hid (W6.cell? (ad3.add t) = some (.int .u64 y)) := Lib.hid (by rw [hy]; exact hcell3 t ht1)
    have hti : (t : Int) < (p.length : Int) := by omega
    clear hy hcell3
    go_wp2_with (at_builtin; refine wpList_appN rfl (.tmp 114) (.tmp 116) 22 33 (.int .u64 0) 8 rfl Try.underlying22 infoU64 rfl (by decide) w12.heap.size _ [] (ints .u64 p) (some ad3) p.length c3 rfl rfl HLP.out (ints_one _ _) (Own.lit w12 w12.heap.size 33 [] (Nat.le_refl _) (by simp)) (HP6.out.gr (HG12.out.alloc _)).toV ((Gr.refl _).alloc _).size (by simp; omega) ?_; intro v13 w13 ho13 hg13 ha13; rw [HT.out]; have HO13 := Lib.hid ho13; have HG13 : Hid (Gr w12 w13) := Lib.hid (((Gr.refl w12).alloc _).grown hg13 (fun k hk => (Own.lit w12 w12.heap.size 33 [] (Nat.le_refl _) (by simp)).block_ge k hk)); obtain ⟨g13, c13, hv13, hc13, hB13, hL13⟩ := HO13.out.form (by rw [List.nil_append, HLP.out]; omega); rw [List.nil_append, HLP.out] at hv13 hc13; subst hv13; have hx13 := HO13.out.cell t (.int .u64 y) (by rw [List.nil_append]; simp [ints, HY.out, List.getElem?_eq_getElem ht1]); have hf13 := HO13.out.frozen t; clear ho13 hg13 ha13)
    have HO14 : Hid (Own (w13.setCell ⟨g13, t, none⟩ (.int .u64 v)) w12.heap.size 33 (.slice (some ⟨g13, 0, none⟩) p.length c13) (ints .u64 (p.set t v))) := Lib.hid (by
      have h := HO13.out.set (by rw [List.nil_append, HLP.out]) t (.int .u64 v)
      rw [List.nil_append] at h
      simpa [ints, List.map_set] using h)
    have HG14 : Hid (Gr W6 (w13.setCell ⟨g13, t, none⟩ (.int .u64 v))) := Lib.hid ((HG12.out.trans HG13.out).setCell (Nat.le_trans HG12.out.size hB13) _)
    clear hx13 hf13 hL13
    obtain ⟨W14, hW14⟩ : ∃ W, W = w13.setCell ⟨g13, t, none⟩ (.int .u64 v) := ⟨_, rfl⟩
    rw [← hW14] at HO14 HG14 ⊢
    clear hW14
    clear z0 z1 z2 z3 z4 z5 z6 z7
    have F : Hid (∀ W, Gr W14 W → W.cell? ⟨w4.heap.size, 0, none⟩ = some (.slice (some ad3) p.length c3) ∧ W.cell? ⟨w4.heap.size + 1, 0, none⟩ = some (.int .i64 i) ∧ W.cell? ⟨w4.heap.size + 1, 1, none⟩ = some (.int .u64 x) ∧ W.cell? (ad3.add t) = some (.int .u64 y)) :=
      Lib.hid (fun W hW => ⟨(HL6.out.gr (HG14.out.trans hW)).facts.2.1, (HL6.out.gr (HG14.out.trans hW)).facts.2.2.2.1, (HL6.out.gr (HG14.out.trans hW)).facts.2.2.2.2.1, (HG14.out.trans hW).cell HC3.out⟩)
    obtain ⟨A14, c14, hv14, hc14, hr14⟩ := HO14.out.reads
    rw [List.length_set] at hv14 hc14
    injection hv14 with hA14 _ hcc14
    subst hA14 hcc14
    have HR14 := Lib.hid hr14
    clear hr14 hc14
    obtain ⟨r2, hr2⟩ : ∃ r2 : Int, r2 = if v = y then 0 else 6 := ⟨_, rfl⟩
    have CK : Hid (∀ W, Gr W14 W → Calls Try.prog 12 #[.int .u64 (droot d), .agg #[.int .i64 n, .slice (some ⟨g13, 0, none⟩) p.length c13], .agg #[.int .i64 i, .int .u64 x]] W fun e w' => e = .returned (.int .i64 r2) ∧ Gr W w') := Lib.hid (fun W hW => by
      have C := lcheck_any (droot d) n i x (some ⟨g13, 0, none⟩) (p.set t v) c13 W (by rw [List.length_set]; exact hc13) (HR14.out.gr hW)
      have hf := check_set HDU.out (i := i) (by rw [HDL.out]; omega) (by rw [HDL.out]; omega) HV.out (j := t) (by rw [← HP.out]; exact ht1)
      rw [HDL.out, ← HP.out, ← HX.out, ← HY.out, ← hr2] at hf
      rw [hf, List.length_set] at C
      exact C)
    have hq : (r2 == 0) = (v == y) := by
      rw [hr2]
      by_cases e : v = y
      · rw [if_pos e]; simp [e]
      · rw [if_neg e]; simp [e]
    have HPD : Hid (∀ W, Gr W14 W → Rd W .u64 (some ad3) p.dropLast) := Lib.hid (fun W hW => by
      rw [List.dropLast_eq_take]; exact (HP6.out.gr (HG14.out.trans hW)).take _)
    have hwr : IntKind.i64.wrap ((p.length : Int) - 1) = ((p.length - 1 : Nat) : Int) := by rw [IntWalk.i64_in _ (by omega)]; omega
    have hdl1 : ((p.length - 1 : Nat) : Int) ≤ (c3 : Int) := by omega
    clear hr2 hpn
    refine wp_region_quiet (C := fun W => Gr W14 W) (by kernel_rfl) (by kernel_rfl) ((Gr.refl _).drew) ?_
    repeat (refine wpQuiet_step (fun K hK => ?_); go_simp; first
      | (refine ⟨_, fun _ _ => rfl, hK _ ?_⟩; clear hK K)
      | (apply Exists.intro; refine ⟨fun W hW => ?_, hK _ ?_⟩; (obtain ⟨y0, y1, y2, y3⟩ := F.out W hW; go_simp; rfl); clear hK K)
      | (apply Exists.intro; refine ⟨fun W hW => ?_, hK _ ?_⟩; (first
          | (go_at_call 12; ((with_reducible refine (CK.out W hW).mono ?_); exact fun e w' h => ⟨h.1, hW.trans h.2⟩))
          | (go_at_call 12; ((with_reducible refine (HCL.out (some ad3) p.dropLast (p.length - 1) c3 W (by simp) (by omega) (by simp; omega) (HPD.out W hW)).mono ?_); exact fun e w' h => ⟨h.1, hW.trans h.2⟩))); clear hK K))
    refine wpQuiet_nil ?_
    intro W hW
    have HWW := Lib.hid hW
    clear hW hq
    go_wp2
    go_ret
    exact ⟨rfl, GW6.out.trans (HG14.out.trans HWW.out)⟩
theorem Us_of_wf {l : List Int} (h : ∀ z ∈ l, (Lit.int .u64 z).wf = true) : Us l := fun z hz => by
  have := h z hz
  simp only [Lit.wf, Bool.and_eq_true, decide_eq_true_eq] at this
  have hmin : IntKind.u64.min = 0 := rfl
  have hmax : IntKind.u64.max = 18446744073709551615 := rfl
  unfold U; omega
theorem refuses_int (A : Option Addr) (l : List Int) (c : Nat) (a b k : Int) (v : Int) (w : World) (hcap : l.length ≤ c) (hr : Rd w .u64 A l) (hU : ∀ z ∈ l, (Lit.int .u64 z).wf = true) (ha : 0 ≤ a ∧ a ≤ 65535) (hb : 0 ≤ b ∧ b ≤ 65535) (hk : 0 ≤ k ∧ k ≤ 65535) (hv : 0 ≤ v ∧ v ≤ 18446744073709551615) :
    Calls Try.prog 4 #[.slice A l.length c, .agg #[.int .u16 a, .int .u16 b, .int .u16 k], .int .u64 v] w fun e w' => e = .returned (.bool true) ∧ Gr w w' := by
  obtain ⟨a, rfl⟩ := Int.eq_ofNat_of_zero_le ha.1
  obtain ⟨b, rfl⟩ := Int.eq_ofNat_of_zero_le hb.1
  obtain ⟨k, rfl⟩ := Int.eq_ofNat_of_zero_le hk.1
  exact refuses_walk A l c a b k v w hcap hr (Us_of_wf hU) (by omega) (by omega) (by omega) (by unfold U; omega)
end Go.Proofs.Ytlikefnngkokhaa
