/- Contracts of the reference on digests: Step, Join, Up, Same, Grown. -/
import Derived.Test.YtlikefnngkokhaaProg
import Derived.Test.YtlikefnngkokhaaTypes
import Derived.Test.YtlikefnngkokhaaRef01Pure
set_option linter.unusedVariables false
set_option linter.unusedSimpArgs false
namespace Go.Proofs.Ytlikefnngkokhaa
open Go.RowKit

theorem step_any (h x : Int) (w : World) :
    Calls Try.prog 28 #[.int .u64 h, .int .u64 x] w fun e w' => e = .returned (.int .u64 (dstep h x)) ∧ w = w' := by
  go_enter Try.func28, Try.ntmps28
  go_wp2
  go_ret
  exact ⟨rfl, rfl⟩
theorem rjoin_any (a b : Int) (w : World) :
    Calls Try.prog 22 #[.int .u64 a, .int .u64 b] w fun e w' => e = .returned (.int .u64 (djoin a b)) ∧ w = w' := by
  go_enter Try.func22, Try.ntmps22
  go_wp2_with (go_at_call 28; go_must (refine (step_any _ _ _).mono ?_; rintro e w' ⟨rfl, rfl⟩))
  go_ret
  exact ⟨rfl, rfl⟩
theorem up_any (a b : Int) (left : Bool) (w : World) :
    Calls Try.prog 16 #[.int .u64 a, .int .u64 b, .bool left] w fun e w' => e = .returned (.int .u64 (dup a b left)) ∧ w = w' := by
  cases left
  all_goals
    go_enter Try.func16, Try.ntmps16
    go_wp2_with (go_at_call 22; go_must (refine (rjoin_any _ _ _).mono ?_; rintro e w' ⟨rfl, rfl⟩))
    go_ret
    exact ⟨by simp [dup], rfl⟩

theorem take_eq_of {l m : List Int} {k : Nat} (hk : k < l.length) (hk' : k < m.length) (h : l.take k = m.take k) (he : l[k] = m[k]) : l.take (k + 1) = m.take (k + 1) := by
  rw [take_snoc' l k hk, take_snoc' m k hk', h, he]
set_option maxHeartbeats 400000 in
theorem same_any (A B : Option Addr) (l m : List Int) (c c' : Nat) (w : World) (hA : Rd w .u64 A l) (hB : Rd w .u64 B m) :
    Calls Try.prog 14 #[.slice A l.length c, .slice B m.length c'] w fun e w' => e = .returned (.bool (decide (l = m))) ∧ Gr w w' := by
  have hl := hA.len
  by_cases hn : l.length = m.length
  · have hb : ((l.length : Int) != (m.length : Int)) = false := by simp; omega
    have HN := Lib.hid hn
    clear hn
    go_enter Try.func14, Try.ntmps14
    go_wp2
    go_loopw [5] (fun i wr => ∃ k : Nat, k ≤ l.length ∧ i = .int .i64 k ∧ Hid (l.take k = m.take k) ∧ Hid (Gr w wr)) (fun i _ => l.length - (intOf i).toNat)
    case atStart => exact ⟨0, Nat.zero_le _, rfl, Lib.hid (by simp), Lib.hid (Gr.refl _)⟩
    case round =>
      obtain ⟨k, hk, rfl, HT, HG⟩ := hrel
      by_cases hlt : k < l.length
      · have hlm : k < m.length := by have := HN.out; omega
        obtain ⟨ad, rfl, hc⟩ := (hA.gr HG.out).2 (by omega)
        obtain ⟨ad', rfl, hc'⟩ := (hB.gr HG.out).2 (by omega)
        have hx : wr.cell? (ad.add k) = some (.int .u64 l[k]) := by rw [hc k hlt]; simp [List.getElem?_eq_getElem hlt]
        have hy : wr.cell? (ad'.add k) = some (.int .u64 m[k]) := by rw [hc' k hlm]; simp [List.getElem?_eq_getElem hlm]
        have hi1 : (k : Int) < (l.length : Int) := by omega
        have hi2 : (k : Int) < (m.length : Int) := by omega
        clear hc hc' hA hB
        by_cases he : l[k] = m[k]
        · have hbe : (l[k] != m[k]) = false := by simpa using he
          have HE := Lib.hid he
          have HL1 := Lib.hid hlt
          have HL2 := Lib.hid hlm
          clear he
          go_wp2
          go_quiet (fail)
          go_wp2
          go_roundw
          case rel => exact ⟨k + 1, by omega, by go_num, Lib.hid (take_eq_of HL1.out HL2.out HT.out HE.out), Lib.hid (HG.out.drewN _)⟩
          case measure => simp [intOf]; omega
        · have hbe : (l[k] != m[k]) = true := by simpa using he
          have hne : l ≠ m := fun e => he (by subst e; rfl)
          have HE := Lib.hid hne
          clear he hne
          go_wp2
          go_quiet (fail)
          go_wp2
          go_ret
          exact ⟨by rw [decide_eq_false HE.out]; rfl, HG.out.drewN _⟩
      · have hkl : ¬ (k : Int) < (l.length : Int) := by omega
        have he : l = m := by
          have h1 := HT.out
          rw [List.take_of_length_le (by omega), List.take_of_length_le (by have := HN.out; omega)] at h1
          exact h1
        have HE := Lib.hid he
        clear he hlt
        go_wp2
        go_ret
        exact ⟨by rw [decide_eq_true HE.out]; rfl, HG.out⟩
  · have hb : ((l.length : Int) != (m.length : Int)) = true := by simp; omega
    have hne : l ≠ m := fun e => hn (by rw [e])
    have HE := Lib.hid hne
    clear hn hne hA hB
    go_enter Try.func14, Try.ntmps14
    go_wp2
    go_ret
    exact ⟨by rw [decide_eq_false HE.out]; rfl, Gr.refl _⟩

theorem same_yes (A B : Option Addr) (l : List Int) (c c' : Nat) (w : World) (hA : Rd w .u64 A l) (hB : Rd w .u64 B l) :
    Calls Try.prog 14 #[.slice A l.length c, .slice B l.length c'] w fun e w' => e = .returned (.bool true) ∧ Gr w w' :=
  (same_any A B l l c c' w hA hB).mono fun e w' h => ⟨by rw [h.1, decide_eq_true rfl], h.2⟩

def GrownPost (l : List Int) (w : World) (e : Ending) (w' : World) : Prop := ∃ v, e = .returned v ∧ Own w' w.heap.size 33 v (ints .u64 l) ∧ Gr w w'
set_option maxHeartbeats 400000 in
theorem grown_any (A : Option Addr) (l : List Int) (c : Nat) (n : Nat) (w : World) (hn : n ≤ 1048576) (hcap : l.length ≤ c) (hr : Rd w .u64 A l) :
    Calls Try.prog 10 #[.slice A l.length c, .int .i64 n] w (GrownPost (dgrown l n) w) := by
  have hlen := hr.len
  have hr' := (hr.take n).gr ((Gr.refl w).alloc (.cells #[] 33))
  have HR := Lib.hid hr'.toV
  by_cases hk : n < l.length
  · have hk' : (n : Int) ≤ (l.length : Int) := by omega
    have hkc : (n : Int) ≤ (c : Int) := by omega
    have htl : (ints .u64 (l.take n)).length = n := by rw [ints_length]; simp; omega
    have HTL := Lib.hid htl
    clear hr' htl hr
    go_enter Try.func10, Try.ntmps10
    go_wp2_with (at_builtin; go_must (refine wpList_appN rfl (.tmp 6) (.tmp 12) 22 33 (.int .u64 0) 8 rfl Try.underlying22 infoU64 rfl (by decide) w.heap.size _ [] (ints .u64 (l.take n)) A n c rfl rfl HTL.out (ints_one _ _) (Own.lit w w.heap.size 33 [] (Nat.le_refl _) (by simp)) HR.out ((Gr.refl w).alloc _).size (by simp; omega) ?_; intro v1 w1 ho1 hg1 ha1))
    have HO1 : Hid (Own w1 w.heap.size 33 v1 (ints .u64 (l.take n))) := Lib.hid (by simpa using ho1)
    have HG1 : Hid (Gr w w1) := Lib.hid (((Gr.refl w).alloc _).grown hg1 (fun k hk => (Own.lit w w.heap.size 33 [] (Nat.le_refl _) (by simp)).block_ge k hk))
    have HTN : Hid ((l.take n).length ≤ n) := Lib.hid (by simp; omega)
    clear ho1 hg1 ha1 HTL HR
    go_loopg [5] (n - (l.take n).length) (fun g v wr => ∃ out : List Int, Hid (g = n - out.length) ∧ out.length ≤ n ∧ Hid (dgrow out n = dgrown l n) ∧ Hid (Own wr w.heap.size 33 v (ints .u64 out)) ∧ Hid (Gr w wr))
    case atStart => exact ⟨l.take n, Lib.hid rfl, HTN.out, Lib.hid rfl, HO1, HG1⟩
    case round =>
      obtain ⟨out, HGN, hle, HD, HO, HG⟩ := hrel
      obtain ⟨A1, c1, rfl, hc1, _⟩ := HO.out.reads
      have hsz : w.heap.size ≤ wr.heap.size := HG.out.size
      by_cases hlt : out.length < n
      · have HS := Lib.hid (dgrow_yes hlt)
        go_wp2_with (first
          | (go_at_call 28; go_must (refine (step_any _ _ _).mono ?_; rintro e w' ⟨rfl, rfl⟩))
          | (at_builtin; go_must (refine wpList_app1 rfl (.tmp 18) (.tmp 25) 22 33 (.int .u64 0) 8 rfl Try.underlying22 infoU64 rfl (by decide) w.heap.size _ (ints .u64 out) (.int .u64 (dstep out.length n)) wr.heap.size (0, 0) rfl rfl rfl (HO.out.gr ((Gr.refl _).alloc _)) (heap_new _ _) (Nat.le_trans HG.out.size ((Gr.refl _).alloc _).size) (by rw [ints_length]; omega) ?_; intro v2 w2 ho2 hg2 ha2; have HO2 := Lib.hid ho2; have HG2 : Hid (Gr w w2) := Lib.hid ((HG.out.alloc _).grown hg2 (fun k hk => HO.out.block_ge k hk)); clear ho2 hg2 ha2)))
        go_roundg (n - (out.length + 1))
        case measure => have := HGN.out; omega
        case rel => exact ⟨out ++ [dstep out.length n], Lib.hid (by simp), by simp; omega, Lib.hid (by rw [← HS.out]; exact HD.out), Lib.hid (by rw [ints_append]; exact HO2.out), HG2⟩
      · have HS := Lib.hid (dgrow_no hlt)
        go_wp2
        go_ret
        exact ⟨_, rfl, by rw [← HD.out, HS.out]; exact HO.out, HG.out⟩
  · have hkc : (l.length : Int) ≤ (c : Int) := by omega
    have htl : (ints .u64 (l.take n)).length = l.length := by rw [ints_length]; simp; omega
    have HTL := Lib.hid htl
    clear hr' htl hr
    go_enter Try.func10, Try.ntmps10
    go_wp2_with (at_builtin; go_must (refine wpList_appN rfl (.tmp 6) (.tmp 12) 22 33 (.int .u64 0) 8 rfl Try.underlying22 infoU64 rfl (by decide) w.heap.size _ [] (ints .u64 (l.take n)) A l.length c rfl rfl HTL.out (ints_one _ _) (Own.lit w w.heap.size 33 [] (Nat.le_refl _) (by simp)) HR.out ((Gr.refl w).alloc _).size (by simp; omega) ?_; intro v1 w1 ho1 hg1 ha1))
    have HO1 : Hid (Own w1 w.heap.size 33 v1 (ints .u64 (l.take n))) := Lib.hid (by simpa using ho1)
    have HG1 : Hid (Gr w w1) := Lib.hid (((Gr.refl w).alloc _).grown hg1 (fun k hk => (Own.lit w w.heap.size 33 [] (Nat.le_refl _) (by simp)).block_ge k hk))
    have HTN : Hid ((l.take n).length ≤ n) := Lib.hid (by simp; omega)
    clear ho1 hg1 ha1 HTL HR
    go_loopg [5] (n - (l.take n).length) (fun g v wr => ∃ out : List Int, Hid (g = n - out.length) ∧ out.length ≤ n ∧ Hid (dgrow out n = dgrown l n) ∧ Hid (Own wr w.heap.size 33 v (ints .u64 out)) ∧ Hid (Gr w wr))
    case atStart => exact ⟨l.take n, Lib.hid rfl, HTN.out, Lib.hid rfl, HO1, HG1⟩
    case round =>
      obtain ⟨out, HGN, hle, HD, HO, HG⟩ := hrel
      obtain ⟨A1, c1, rfl, hc1, _⟩ := HO.out.reads
      have hsz : w.heap.size ≤ wr.heap.size := HG.out.size
      by_cases hlt : out.length < n
      · have HS := Lib.hid (dgrow_yes hlt)
        go_wp2_with (first
          | (go_at_call 28; go_must (refine (step_any _ _ _).mono ?_; rintro e w' ⟨rfl, rfl⟩))
          | (at_builtin; go_must (refine wpList_app1 rfl (.tmp 18) (.tmp 25) 22 33 (.int .u64 0) 8 rfl Try.underlying22 infoU64 rfl (by decide) w.heap.size _ (ints .u64 out) (.int .u64 (dstep out.length n)) wr.heap.size (0, 0) rfl rfl rfl (HO.out.gr ((Gr.refl _).alloc _)) (heap_new _ _) (Nat.le_trans HG.out.size ((Gr.refl _).alloc _).size) (by rw [ints_length]; omega) ?_; intro v2 w2 ho2 hg2 ha2; have HO2 := Lib.hid ho2; have HG2 : Hid (Gr w w2) := Lib.hid ((HG.out.alloc _).grown hg2 (fun k hk => HO.out.block_ge k hk)); clear ho2 hg2 ha2)))
        go_roundg (n - (out.length + 1))
        case measure => have := HGN.out; omega
        case rel => exact ⟨out ++ [dstep out.length n], Lib.hid (by simp), by simp; omega, Lib.hid (by rw [← HS.out]; exact HD.out), Lib.hid (by rw [ints_append]; exact HO2.out), HG2⟩
      · have HS := Lib.hid (dgrow_no hlt)
        go_wp2
        go_ret
        exact ⟨_, rfl, by rw [← HD.out, HS.out]; exact HO.out, HG.out⟩
end Go.Proofs.Ytlikefnngkokhaa
