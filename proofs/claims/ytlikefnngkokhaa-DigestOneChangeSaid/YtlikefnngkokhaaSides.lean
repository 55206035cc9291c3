/- Contract of Sides of the reference. -/
import Derived.Test.YtlikefnngkokhaaTypes
import Derived.Test.YtlikefnngkokhaaRef01Pure
set_option linter.unusedVariables false
set_option linter.unusedSimpArgs false
namespace Go.Proofs.Ytlikefnngkokhaa
open Go.RowKit
def bools (l : List Bool) : List Value := l.map Value.bool
theorem bools_length (l : List Bool) : (bools l).length = l.length := by simp [bools]
theorem bools_append (l m : List Bool) : bools (l ++ m) = bools l ++ bools m := by simp [bools]
def SidesPost (l : List Bool) (w : World) (e : Ending) (w' : World) : Prop := ∃ v, e = .returned v ∧ Own w' w.heap.size 4 v (bools l) ∧ Gr w w'
set_option maxHeartbeats 400000 in
theorem sides_any (n i : Nat) (w : World) (hn : n ≤ 1048576) (hi : i < n) :
    Calls Try.prog 15 #[.int .i64 n, .int .i64 i] w (SidesPost (dsides n i) w) := by
  go_enter Try.func15, Try.ntmps15
  go_wp2_with fail
  go_loopg [0, 1, 5] n (fun g a b v wr => ∃ (m j : Nat) (out : List Bool), Hid (g = m) ∧ a = .int .i64 m ∧ b = .int .i64 j ∧ m ≤ 1048576 ∧ j < m ∧ Hid (out.length + m ≤ n) ∧ Hid (out ++ dsides m j = dsides n i) ∧ Hid (Own wr w.heap.size 4 v (bools out)) ∧ Hid (Gr w wr))
  case atStart => exact ⟨n, i, [], Lib.hid rfl, rfl, rfl, hn, hi, Lib.hid (by simp), Lib.hid rfl, Lib.hid (Own.lit w w.heap.size 4 [] (Nat.le_refl _) (by simp)), Lib.hid ((Gr.refl w).alloc _)⟩
  case round =>
    obtain ⟨m, j, out, HGM, rfl, rfl, hm, hj, HLEN, HD, HO, HG⟩ := hrel
    obtain ⟨A1, c1, rfl, hc1⟩ := HO.out.slice
    have hsz : w.heap.size ≤ wr.heap.size := HG.out.size
    have hbnd : out.length ≤ 1048576 := by have := HLEN.out; omega
    rw [bools_length] at hc1
    by_cases h1 : 1 < m
    · by_cases h2 : j % 2 = 1
      · have hb : ((j : Int) % 2 == 1) = true := beq_iff_eq.2 (by omega)
        have HS := Lib.hid (dsides_odd (n := m) (by omega) h2)
        clear h2
        go_wp2_with (at_builtin; go_must (refine wpList_app1 rfl (.tmp 12) (.tmp 13) 44 4 (.bool false) 1 rfl Try.underlying44 infoBool rfl (by decide) w.heap.size _ (bools out) (.bool true) wr.heap.size (0, 0) rfl rfl rfl (HO.out.gr ((Gr.refl _).alloc _)) (heap_new _ _) (Nat.le_trans HG.out.size ((Gr.refl _).alloc _).size) (by rw [bools_length]; omega) ?_; intro v2 w2 ho2 hg2 ha2; have HO2 : Hid (Own w2 w.heap.size 4 v2 (bools (out ++ [true]))) := Lib.hid (by rw [bools_append]; exact ho2); have HG2 : Hid (Gr w w2) := Lib.hid ((HG.out.alloc _).grown hg2 (fun k hk => HO.out.block_ge k hk)); clear ho2 hg2 ha2))
        go_roundg ((m + 1) / 2)
        case measure => have := HGM.out; omega
        case rel => exact ⟨(m + 1) / 2, j / 2, out ++ [true], Lib.hid rfl, by go_num, by go_num, by omega, by omega, Lib.hid (by have := HLEN.out; simp; omega), Lib.hid (by rw [← HD.out, HS.out]; simp), HO2, HG2⟩
      · have hb : ((j : Int) % 2 == 1) = false := beq_eq_false_iff_ne.2 (by omega)
        by_cases h3 : j + 1 < m
        · have h3' : (j : Int) + 1 < (m : Int) := by omega
          have HS := Lib.hid (dsides_even (n := m) (by omega) h2 h3)
          clear h2 h3
          go_wp2_with (at_builtin; go_must (refine wpList_app1 rfl (.tmp 19) (.tmp 20) 44 4 (.bool false) 1 rfl Try.underlying44 infoBool rfl (by decide) w.heap.size _ (bools out) (.bool false) wr.heap.size (0, 0) rfl rfl rfl (HO.out.gr ((Gr.refl _).alloc _)) (heap_new _ _) (Nat.le_trans HG.out.size ((Gr.refl _).alloc _).size) (by rw [bools_length]; omega) ?_; intro v2 w2 ho2 hg2 ha2; have HO2 : Hid (Own w2 w.heap.size 4 v2 (bools (out ++ [false]))) := Lib.hid (by rw [bools_append]; exact ho2); have HG2 : Hid (Gr w w2) := Lib.hid ((HG.out.alloc _).grown hg2 (fun k hk => HO.out.block_ge k hk)); clear ho2 hg2 ha2))
          go_roundg ((m + 1) / 2)
          case measure => have := HGM.out; omega
          case rel => exact ⟨(m + 1) / 2, j / 2, out ++ [false], Lib.hid rfl, by go_num, by go_num, by omega, by omega, Lib.hid (by have := HLEN.out; simp; omega), Lib.hid (by rw [← HD.out, HS.out]; simp), HO2, HG2⟩
        · have h3' : ¬ (j : Int) + 1 < (m : Int) := by omega
          have HS := Lib.hid (dsides_last (n := m) (by omega) h2 h3)
          clear h2 h3
          go_wp2
          go_roundg ((m + 1) / 2)
          case measure => have := HGM.out; omega
          case rel => exact ⟨(m + 1) / 2, j / 2, out, Lib.hid rfl, by go_num, by go_num, by omega, by omega, Lib.hid (by have := HLEN.out; omega), Lib.hid (by rw [← HD.out, HS.out]), HO, HG⟩
    · have HS := Lib.hid (dsides_one (n := m) (by omega) j)
      go_wp2
      go_ret
      exact ⟨_, rfl, by rw [← HD.out, HS.out, List.append_nil]; exact HO.out, HG.out⟩
end Go.Proofs.Ytlikefnngkokhaa
