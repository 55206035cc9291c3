/- The examples of the digest law return true. -/
import Derived.Test.YtlikefnngkokhaaCheck
import Derived.Test.YtlikefnngkokhaaRef01
set_option linter.unusedVariables false
set_option linter.unusedSimpArgs false
namespace Go.Proofs.Ytlikefnngkokhaa
open Go.RowKit
structure ExLoc (W : World) (b : Nat) (x y : Value) : Prop where
  p : W.heap[b]? = some (.cells #[x, .int .i64 0] 29 (0, 0))
  q : W.heap[b + 1]? = some (.cells #[y, .int .i64 0] 29 (0, 0))
  r : W.heap[b + 1 + 1]? = some (.cells #[.slice none 0 0, .int .i64 1] 29 (0, 0))
theorem ExLoc.gr {W W' : World} {b : Nat} {x y : Value} (h : ExLoc W b x y) (hg : Gr W W') : ExLoc W' b x y := ⟨hg.block h.p, hg.block h.q, hg.block h.r⟩
theorem ExLoc.facts {W : World} {b : Nat} {x y : Value} (h : ExLoc W b x y) :
    W.cell? ⟨b, 0, none⟩ = some x ∧ W.cell? ⟨b, 1, none⟩ = some (.int .i64 0) ∧ W.cell? ⟨b + 1, 0, none⟩ = some y ∧ W.cell? ⟨b + 1, 1, none⟩ = some (.int .i64 0) ∧
    W.cell? ⟨b + 1 + 1, 0, none⟩ = some (.slice none 0 0) ∧ W.cell? ⟨b + 1 + 1, 1, none⟩ = some (.int .i64 1) ∧ b + 1 + 1 < W.heap.size :=
  ⟨cell_row h.p 0, cell_row h.p 1, cell_row h.q 0, cell_row h.q 1, cell_row h.r 0, cell_row h.r 1, lt_of_heap h.r⟩
theorem ExLoc.new (W : World) (x y : Value) : ExLoc (((W.alloc (.cells #[x, .int .i64 0] 29)).alloc (.cells #[y, .int .i64 0] 29)).alloc (.cells #[.slice none 0 0, .int .i64 1] 29)) W.heap.size x y :=
  ⟨heap_old (heap_new2 _ _ _) _, heap_old (heap_new2' _ _ _) _, by have := heap_new2' (W.alloc (.cells #[x, .int .i64 0] 29)) (.cells #[y, .int .i64 0] 29) (.cells #[.slice none 0 0, .int .i64 1] 29); rwa [World.size_alloc] at this⟩
set_option maxHeartbeats 1000000 in
theorem examples_any (w : World) : Calls Try.prog 9 #[] w fun e w' => e = .returned (.bool true) ∧ Gr w w' := by
  have hr : Rd (w.alloc (.cells #[.int .u64 5, .int .u64 6, .int .u64 7] 33)) .u64 (some ⟨w.heap.size, 0, none⟩) [5, 6, 7] := Rd.lit (heap_new _ _) (by simp)
  have HR := Lib.hid hr
  clear hr
  go_enter Try.func9, Try.ntmps9
  go_wp2_with fail
  refine (pathOf_any (some ⟨w.heap.size, 0, none⟩) [5, 6, 7] 3 2 _ (by simp) (by simp) (by simp) HR.out).mono ?_
  rintro e w1 ⟨v1, rfl, ho1, hg1⟩
  rw [ex_path2] at ho1
  have HO1 := Lib.hid ho1
  have HG1 := Lib.hid hg1
  clear ho1 hg1
  go_wp2_with fail
  refine (pathOf_any (some ⟨w.heap.size, 0, none⟩) [5, 6, 7] 3 0 _ (by simp) (by simp) (by simp) (HR.out.gr HG1.out)).mono ?_
  rintro e w2 ⟨v2, rfl, ho2, hg2⟩
  rw [ex_path0] at ho2
  have HO2 := Lib.hid ho2
  have HG2 := Lib.hid hg2
  clear ho2 hg2
  go_wp2_with fail
  refine (pathOf_err (some ⟨w.heap.size, 0, none⟩) 3 3 3 _ (by omega)).mono ?_
  rintro e w3 ⟨rfl, hg3⟩
  have HG3 := Lib.hid hg3
  clear hg3
  obtain ⟨A1, c1, rfl, hc1, hr1⟩ := HO1.out.reads
  obtain ⟨A2, c2, rfl, hc2, hr2⟩ := HO2.out.reads
  have HR1 := Lib.hid hr1
  have HR2 := Lib.hid hr2
  clear hr1 hr2
  have L3 := Lib.hid (ExLoc.new w3 (.slice A1 1 c1) (.slice A2 2 c2))
  have G3 : Hid (Gr w3 _) := Lib.hid ((((Gr.refl w3).alloc (.cells #[.slice A1 1 c1, .int .i64 0] 29)).alloc (.cells #[.slice A2 2 c2, .int .i64 0] 29)).alloc (.cells #[.slice none 0 0, .int .i64 1] 29))
  have HC1 := Lib.hid hc1
  have HC2 := Lib.hid hc2
  clear hc1 hc2
  go_wp2_with fail
  refine (join_any 5 6 _).mono ?_
  rintro e w4 ⟨rfl, hg4⟩
  have L4 := Lib.hid (L3.out.gr (Gr.refl _ |>.trans hg4))
  have G4 := Lib.hid (G3.out.trans (Gr.refl _ |>.trans hg4))
  clear hg4
  obtain ⟨f4a, f4b, f4c, f4d, f4e, f4f, f4g⟩ := L4.out.facts
  go_wp2_with fail
  have C5 := root_any 3 (some ⟨w.heap.size, 0, none⟩) [5, 6, 7] 3 w4 (by simp) (by simp) (by simp) (HR.out.gr (HG1.out.trans (HG2.out.trans (HG3.out.trans G4.out))))
  rw [ex_root] at C5
  refine C5.mono ?_
  clear C5
  rintro e w5 ⟨rfl, hg5⟩
  have L5 := Lib.hid (L4.out.gr (Gr.trans (Gr.refl _) hg5))
  have G5 := Lib.hid (G4.out.trans (Gr.trans (Gr.refl _) hg5))
  clear hg5
  obtain ⟨f5a, f5b, f5c, f5d, f5e, f5f, f5g⟩ := L5.out.facts
  clear f4a f4b f4c f4d f4e f4f f4g
  go_wp2_with fail
  have C6 := same_yes A1 (some ⟨w5.heap.size, 0, none⟩) [djoin 5 6] c1 1 (w5.alloc (.cells #[.int .u64 (djoin 5 6)] 33)) (HR1.out.gr (HG2.out.trans (HG3.out.trans (G5.out.alloc _)))) (Rd.lit (heap_new _ _) (by simp))
  refine C6.mono ?_
  clear C6
  rintro e w6 ⟨rfl, hg6⟩
  have L6 := Lib.hid (L5.out.gr (Gr.trans ((Gr.refl _).alloc _) hg6))
  have G6 := Lib.hid (G5.out.trans (Gr.trans ((Gr.refl _).alloc _) hg6))
  clear hg6
  obtain ⟨f6a, f6b, f6c, f6d, f6e, f6f, f6g⟩ := L6.out.facts
  clear f5a f5b f5c f5d f5e f5f f5g
  go_wp2_with fail
  have C7 := same_yes A2 (some ⟨w6.heap.size, 0, none⟩) [6, 7] c2 2 (w6.alloc (.cells #[.int .u64 6, .int .u64 7] 33)) (HR2.out.gr (HG3.out.trans (G6.out.alloc _))) (Rd.lit (heap_new _ _) (by simp))
  refine C7.mono ?_
  clear C7
  rintro e w7 ⟨rfl, hg7⟩
  have L7 := Lib.hid (L6.out.gr (Gr.trans ((Gr.refl _).alloc _) hg7))
  have G7 := Lib.hid (G6.out.trans (Gr.trans ((Gr.refl _).alloc _) hg7))
  clear hg7
  obtain ⟨f7a, f7b, f7c, f7d, f7e, f7f, f7g⟩ := L7.out.facts
  clear f6a f6b f6c f6d f6e f6f f6g
  go_wp2_with fail
  have C8 := join_any (djoin 5 6) 7 w7
  refine C8.mono ?_
  clear C8
  rintro e w8 ⟨rfl, hg8⟩
  have L8 := Lib.hid (L7.out.gr (Gr.trans (Gr.refl _) hg8))
  have G8 := Lib.hid (G7.out.trans (Gr.trans (Gr.refl _) hg8))
  clear hg8
  obtain ⟨f8a, f8b, f8c, f8d, f8e, f8f, f8g⟩ := L8.out.facts
  clear f7a f7b f7c f7d f7e f7f f7g
  go_wp2_with fail
  have C9 := root_any 1 (some ⟨w.heap.size, 0, none⟩) [5] 3 w8 (by simp) (by simp) (by simp) ((HR.out.gr (HG1.out.trans (HG2.out.trans (HG3.out.trans G8.out)))).take 1)
  rw [droot_one] at C9
  refine C9.mono ?_
  clear C9
  rintro e w9 ⟨rfl, hg9⟩
  have L9 := Lib.hid (L8.out.gr (Gr.trans (Gr.refl _) hg9))
  have G9 := Lib.hid (G8.out.trans (Gr.trans (Gr.refl _) hg9))
  clear hg9
  obtain ⟨f9a, f9b, f9c, f9d, f9e, f9f, f9g⟩ := L9.out.facts
  clear f8a f8b f8c f8d f8e f8f f8g
  go_wp2_with fail
  refine (rjoin_any 5 6 w9).mono ?_
  rintro e w' ⟨rfl, rfl⟩
  go_wp2_with fail
  have C10 := root_any 0 none [] 0 w9 (by simp) (by simp) (by simp) (Rd.nil _ _ _)
  rw [droot_nil] at C10
  refine C10.mono ?_
  clear C10
  rintro e w10 ⟨rfl, hg10⟩
  have L10 := Lib.hid (L9.out.gr (Gr.trans (Gr.refl _) hg10))
  have G10 := Lib.hid (G9.out.trans (Gr.trans (Gr.refl _) hg10))
  clear hg10
  obtain ⟨f10a, f10b, f10c, f10d, f10e, f10f, f10g⟩ := L10.out.facts
  clear f9a f9b f9c f9d f9e f9f f9g
  go_wp2_with fail
  have C11 := words_any none [] 0 w10 (Rd.nil _ _ _)
  refine C11.mono ?_
  clear C11
  rintro e w11 ⟨rfl, hg11⟩
  have L11 := Lib.hid (L10.out.gr (Gr.trans (Gr.refl _) hg11))
  have G11 := Lib.hid (G10.out.trans (Gr.trans (Gr.refl _) hg11))
  clear hg11
  obtain ⟨f11a, f11b, f11c, f11d, f11e, f11f, f11g⟩ := L11.out.facts
  clear f10a f10b f10c f10d f10e f10f f10g
  go_wp2_with fail
  have C12 := lcheck_any (djoin (djoin 5 6) 7) 3 2 7 A1 [djoin 5 6] c1 w11 HC1.out (HR1.out.gr (HG2.out.trans (HG3.out.trans G11.out)))
  rw [ex_check1] at C12
  refine C12.mono ?_
  clear C12
  rintro e w12 ⟨rfl, hg12⟩
  have L12 := Lib.hid (L11.out.gr (Gr.trans (Gr.refl _) hg12))
  have G12 := Lib.hid (G11.out.trans (Gr.trans (Gr.refl _) hg12))
  clear hg12
  obtain ⟨f12a, f12b, f12c, f12d, f12e, f12f, f12g⟩ := L12.out.facts
  clear f11a f11b f11c f11d f11e f11f f11g
  go_wp2_with fail
  have C13 := lcheck_any (djoin (djoin 5 6) 7) 3 2 7 A2 [6, 7] c2 w12 HC2.out (HR2.out.gr (HG3.out.trans G12.out))
  rw [ex_check2] at C13
  refine C13.mono ?_
  clear C13
  rintro e w13 ⟨rfl, hg13⟩
  have L13 := Lib.hid (L12.out.gr (Gr.trans (Gr.refl _) hg13))
  have G13 := Lib.hid (G12.out.trans (Gr.trans (Gr.refl _) hg13))
  clear hg13
  obtain ⟨f13a, f13b, f13c, f13d, f13e, f13f, f13g⟩ := L13.out.facts
  clear f12a f12b f12c f12d f12e f12f f12g
  go_wp2_with fail
  have C14 := lcheck_any (djoin (djoin 5 6) 7) 0 0 0 none [] 0 w13 (by simp) (Rd.nil _ _ _)
  rw [ex_check3] at C14
  refine C14.mono ?_
  clear C14
  rintro e w14 ⟨rfl, hg14⟩
  have L14 := Lib.hid (L13.out.gr (Gr.trans (Gr.refl _) hg14))
  have G14 := Lib.hid (G13.out.trans (Gr.trans (Gr.refl _) hg14))
  clear hg14
  obtain ⟨f14a, f14b, f14c, f14d, f14e, f14f, f14g⟩ := L14.out.facts
  clear f13a f13b f13c f13d f13e f13f f13g
  go_wp2_with fail
  go_ret
  exact ⟨rfl, ((((Gr.refl w).alloc _).trans HG1.out).trans HG2.out).trans (HG3.out.trans G14.out)⟩
end Go.Proofs.Ytlikefnngkokhaa
